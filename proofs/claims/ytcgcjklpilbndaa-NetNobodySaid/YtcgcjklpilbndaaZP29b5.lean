/- Own texts, one behind the other: walks and laws that the statement needs. They prove no statement by themselves. -/
import Derived.Test.YtcgcjklpilbndaaZP29b4
import Derived.Test.YtcgcjklpilbndaaZP29b3
import Derived.Test.YtcgcjklpilbndaaZP29b2
import Derived.Test.YtcgcjklpilbndaaZP29b1
/- Messages' bytes, walked. It proves no statement by itself. -/
set_option linter.unusedSimpArgs false
set_option linter.unusedVariables false
set_option maxRecDepth 100000
set_option maxHeartbeats 2000000
namespace Go.Proofs.Ytcgcjklpilbndaa
open Go Go.RowKit E
attribute [local irreducible] wpList seqH treeH
theorem tk_put (w0 : World) (m : Msg) (A1 : Option Addr) (x1 : Nat) (b : List Nat) (A2 : Option Addr) (x2 : Nat) (s : List Nat) (hm : m.ok) (RB : Rd w0 1 A1 b.length (bv b)) (RS : Rd w0 1 A2 s.length (bv s)) (nB : b.length ≤ 1000000000) (nS : s.length ≤ 1000000000) :
    Ret Try.prog 44 [.agg (cat (msgC m A1 b.length x1 A2 s.length x2)).toArray] w0 fun v w' => ∃ k c o e, v = .tuple #[.slice (at_ k) (List.length o) c, .int .i64 e] ∧ (m.right → o = tput m b s ∧ e = 0) ∧ (¬ m.right → o = [] ∧ e = 1) ∧ St w0 w' [] [k] [Rw 5 1 (List.length o) c (bv o)] := by
  refine enter Try.func44 rfl Try.ntmps44 (Nat.le_of_ble_eq_true rfl) ?_
  have S := St.init w0
  have hr : m.r.ok := ⟨hm.rh, hm.rb⟩
  have hj : m.j.ok := hm.j
  have hn1 := nums_len [m.k, m.f, m.t]
  have hn2 := nums_len [m.n, m.c, m.p]
  simp only [List.length_cons, List.length_nil] at hn1 hn2
  have hn3 := num_len m.gk
  have hn4 := num_len m.m
  have hn5 := jput_len (b := b) hj
  have hn6 := sput_len (s := s) hr
  have hn7 := num_len ((jput m.j b).length : Int)
  have hn8 := num_len ((sput m.r s).length : Int)
  have e0 := hm.h0
  have e1 := hm.h1
  have e2 := hm.go
  have e3 := hm.sec
  refine s_seq (s_plain ?_)
  refine p_does (d_boxA S rfl) rfl ?_
  rintro _ w ⟨b1, rfl, S⟩
  refine p_val (e_assign (v := .slice _ _ _) rfl) rfl ?_
  refine p_val (e_assign (v := .int _ _) rfl) rfl ?_
  refine p_nil (x_then (s_seq (s_seq (s_plain ?_))))
  refine p_val (e_loadW 0 rfl ag84 sz84 S rfl rfl (by first | with_reducible assumption | (rw [bv_length]; with_reducible assumption) | (rw [List.size_toArray, bv_length]; with_reducible assumption) | (simp [cat, msgC, jbC, sgdC, rcpC, hm.h0, hm.h1, hm.go, hm.sec, hm.j, hm.rh, hm.rb, zc78, zc82, zc54, length_zsum]; done) | (simp [cat, msgC, jbC, sgdC, rcpC, hm.h0, hm.h1, hm.go, hm.sec, hm.j, hm.rh, hm.rb, zc78, zc82, zc54, length_zsum]; omega) | rfl)) rfl ?_
  refine p_does (d_call Try.func45 nm45 rfl rfl (tk_right _ m _ _ _ _ _ _ hm)) rfl ?_
  rintro _ w ⟨rfl, hB⟩
  have S := S.below hB
  refine p_val (e_not rfl) rfl ?_
  refine p_nil (x_then ?_)
  refine s_condb rfl (fun hc8 => ?_) (fun hc8 => ?_)
  · have hno : ¬ m.right := by simpa using hc8
    refine s_seq (s_plain ?_)
    refine p_val (e_assign (v := .slice _ _ _) rfl) rfl ?_
    refine p_val (e_assign (v := .int _ _) rfl) rfl ?_
    refine p_nil (x_then (s_ret (x_then_ret ?_)))
    exact post2 (v := .slice _ _ _) (x := .int _ _) Try.results44 rfl rfl (⟨none, 0, [], _, rfl, fun h => absurd h hno, fun _ => ⟨rfl, rfl⟩, S.none_.addNil 5 1⟩)
  · have hyes : m.right := by simpa using hc8
    refine s_skip (x_then (s_seq (s_plain ?_)))
    refine p_does (d_allocA S zs56) rfl ?_
    rintro _ w ⟨b4, rfl, S⟩
    have S := pen_new S
    refine p_nil (x_then (s_seq (s_plain ?_)))
    refine p_val (e_field rfl Try.underlying84 rfl sz3 (by decide)) rfl ?_
    refine p_val (e_loadF1 (i := 0) (off := 0) rfl ag3 S (j := 2) rfl rfl rfl (by first | with_reducible assumption | (rw [bv_length]; with_reducible assumption) | (rw [List.size_toArray, bv_length]; with_reducible assumption) | (simp [cat, msgC, jbC, sgdC, rcpC, hm.h0, hm.h1, hm.go, hm.sec, hm.j, hm.rh, hm.rb, zc78, zc82, zc54, length_zsum]; done) | (simp [cat, msgC, jbC, sgdC, rcpC, hm.h0, hm.h1, hm.go, hm.sec, hm.j, hm.rh, hm.rb, zc78, zc82, zc54, length_zsum]; omega) | rfl)) rfl ?_
    refine p_val (e_field rfl Try.underlying84 rfl sz3 (by decide)) rfl ?_
    refine p_val (e_loadF1 (i := 1) (off := 1) rfl ag3 S (j := 2) rfl rfl rfl (by first | with_reducible assumption | (rw [bv_length]; with_reducible assumption) | (rw [List.size_toArray, bv_length]; with_reducible assumption) | (simp [cat, msgC, jbC, sgdC, rcpC, hm.h0, hm.h1, hm.go, hm.sec, hm.j, hm.rh, hm.rb, zc78, zc82, zc54, length_zsum]; done) | (simp [cat, msgC, jbC, sgdC, rcpC, hm.h0, hm.h1, hm.go, hm.sec, hm.j, hm.rh, hm.rb, zc78, zc82, zc54, length_zsum]; omega) | rfl)) rfl ?_
    refine p_val (e_field rfl Try.underlying84 rfl sz3 (by decide)) rfl ?_
    refine p_val (e_loadF1 (i := 2) (off := 2) rfl ag3 S (j := 2) rfl rfl rfl (by first | with_reducible assumption | (rw [bv_length]; with_reducible assumption) | (rw [List.size_toArray, bv_length]; with_reducible assumption) | (simp [cat, msgC, jbC, sgdC, rcpC, hm.h0, hm.h1, hm.go, hm.sec, hm.j, hm.rh, hm.rb, zc78, zc82, zc54, length_zsum]; done) | (simp [cat, msgC, jbC, sgdC, rcpC, hm.h0, hm.h1, hm.go, hm.sec, hm.j, hm.rh, hm.rb, zc78, zc82, zc54, length_zsum]; omega) | rfl)) rfl ?_
    refine p_does (d_litI S Try.underlying31 sz3 zv3 rfl (l := [_, _, _]) rfl rfl (by decide)) rfl ?_
    rintro _ w ⟨b15, rfl, S⟩
    refine p_does (d_call Try.func58 nm58 rfl rfl (pen_nums _ _ _ _ _ _ _ _ _ (S.hr [1, 2] rfl) (S.rdRw 0 rfl rfl) (S.offRow 0 [1, 2] rfl rfl) (by first | omega | (simp only [List.length_append, List.length_cons, List.length_nil, bv_length, msgC, jbC, sgdC, rcpC, hm.h0, hm.h1, hm.go, hm.sec, hm.j, hm.rh, hm.rb, zc78, zc82, zc54, length_zsum]; omega) | (simp [cat, msgC, jbC, sgdC, rcpC, hm.h0, hm.h1, hm.go, hm.sec, hm.j, hm.rh, hm.rb, zc78, zc82, zc54, length_zsum]; omega)) (by decide))) rfl ?_
    rintro _ w ⟨rfl, k16, c16, T⟩
    have S := (S.call [1, 2] T rfl).pk [2, 0, 1, 5] rfl
    refine p_nil (x_then (s_seq (s_plain ?_)))
    refine p_val (e_field rfl Try.underlying84 rfl sz78 (by decide)) rfl ?_
    refine p_val (e_loadFS (i := 3) (n := 5) (off := 3) rfl ag78 sz78 (by decide) S (j := 3) rfl rfl (by first | with_reducible assumption | (rw [bv_length]; with_reducible assumption) | (rw [List.size_toArray, bv_length]; with_reducible assumption) | (simp [cat, msgC, jbC, sgdC, rcpC, hm.h0, hm.h1, hm.go, hm.sec, hm.j, hm.rh, hm.rb, zc78, zc82, zc54, length_zsum]; done) | (simp [cat, msgC, jbC, sgdC, rcpC, hm.h0, hm.h1, hm.go, hm.sec, hm.j, hm.rh, hm.rb, zc78, zc82, zc54, length_zsum]; omega) | rfl) (by first | with_reducible assumption | (rw [bv_length]; with_reducible assumption) | (rw [List.size_toArray, bv_length]; with_reducible assumption) | (simp [cat, msgC, jbC, sgdC, rcpC, hm.h0, hm.h1, hm.go, hm.sec, hm.j, hm.rh, hm.rb, zc78, zc82, zc54, length_zsum]; done) | (simp [cat, msgC, jbC, sgdC, rcpC, hm.h0, hm.h1, hm.go, hm.sec, hm.j, hm.rh, hm.rb, zc78, zc82, zc54, length_zsum]; omega) | rfl)) rfl ?_
    refine p_does (d_allocA S zs78) rfl ?_
    rintro _ w ⟨b5, rfl, S⟩
    refine p_does (d_storeW S 0 rfl rfl (by first | exact bv_one _ | exact sv_one _ | exact iv_one _ | with_reducible assumption | (refine One.mem ?_; repeat (first | exact One.bv _ | exact One.sv _ | exact One.iv _ | exact One.nil | exact One.cat0 | refine One.cat1 ?_ ?_ | refine One.cons rfl ?_ | refine One.append ?_ ?_))) sz78 (by first | with_reducible assumption | (rw [bv_length]; with_reducible assumption) | (rw [List.size_toArray, bv_length]; with_reducible assumption) | (simp [cat, msgC, jbC, sgdC, rcpC, hm.h0, hm.h1, hm.go, hm.sec, hm.j, hm.rh, hm.rb, zc78, zc82, zc54, length_zsum]; done) | (simp [cat, msgC, jbC, sgdC, rcpC, hm.h0, hm.h1, hm.go, hm.sec, hm.j, hm.rh, hm.rb, zc78, zc82, zc54, length_zsum]; omega) | rfl) rfl rfl (by first | with_reducible assumption | (rw [bv_length]; with_reducible assumption) | (rw [List.size_toArray, bv_length]; with_reducible assumption) | (simp [cat, msgC, jbC, sgdC, rcpC, hm.h0, hm.h1, hm.go, hm.sec, hm.j, hm.rh, hm.rb, zc78, zc82, zc54, length_zsum]; done) | (simp [cat, msgC, jbC, sgdC, rcpC, hm.h0, hm.h1, hm.go, hm.sec, hm.j, hm.rh, hm.rb, zc78, zc82, zc54, length_zsum]; omega) | rfl)) rfl ?_
    intro _ w S
    refine p_nil (x_then (s_seq ?_))
    refine s_cutK (ks := [some b5, some b15, some b4, k16, some b1]) (ps := [Ex _ _, Rw _ _ _ _ _, Ex _ _, Rw _ _ _ _ _, Ex _ _]) [(4, .pointer _)] ⟨rfl, trivial⟩ S (fun keep ks ps f' w' => ∃ u Kp4 Cp4 q, f' = upds u (keep) ∧ (q = tput m b s) ∧ St w0 w' [] [some b5, some b15, some b4, Kp4, some b1] [(ps.getD 0 fun _ => True), (ps.getD 1 fun _ => True), penE Kp4 Cp4 q, Rw 5 1 ((List.length q)) Cp4 (bv q), (ps.getD 4 fun _ => True)]) ?_ ?_
    · refine s_seq (s_plain ?_)
      refine p_val (e_field rfl Try.underlying84 rfl sz3 (by decide)) rfl ?_
      refine p_val (e_loadF1 (i := 0) (off := 0) rfl ag3 S (j := 4) rfl rfl rfl (by first | with_reducible assumption | (rw [bv_length]; with_reducible assumption) | (rw [List.size_toArray, bv_length]; with_reducible assumption) | (simp [cat, msgC, jbC, sgdC, rcpC, hm.h0, hm.h1, hm.go, hm.sec, hm.j, hm.rh, hm.rb, zc78, zc82, zc54, length_zsum]; done) | (simp [cat, msgC, jbC, sgdC, rcpC, hm.h0, hm.h1, hm.go, hm.sec, hm.j, hm.rh, hm.rb, zc78, zc82, zc54, length_zsum]; omega) | rfl)) rfl ?_
      refine p_nil (x_then (s_block (s_seq (s_plain ?_))))
      refine p_val (e_eql rfl rfl) rfl ?_
      refine p_val (e_assign (v := .bool _) rfl) rfl ?_
      refine p_nil (x_then ?_)
      refine s_cond rfl (fun hc25 => ?_) (fun hc25 => ?_)
      · refine s_drawK (ks := [some b5, some b15, some b1]) (ps := [Ex _ _, Rw _ _ _ _ _, Ex _ _]) (S.pk [0, 1, 4] rfl) [(true, 0), (true, 1), (true, 2), (true, 3), (true, 4), (true, 5), (true, 8), (true, 9), (true, 10), (true, 12), (true, 13), (true, 14), (true, 16), (true, 17), (true, 18), (true, 20), (true, 21), (true, 22), (false, 6), (false, 7), (false, 11), (false, 15), (false, 19), (false, 23)] [] [] mixed (by kernel_rfl) (by repeat (first | exact Calm.post _ _ _ | refine Calm.then ?_ _ | refine Calm.inB ?_ _)) (fun hS => ?_)
        have S := S.drew
        refine q_val (fun w hS => e_field rfl Try.underlying78 rfl sz3 (by decide)) rfl hS ?_
        refine q_val (fun w hS => e_loadF1 (i := 0) (off := 0) rfl ag3 hS (j := 0) rfl rfl rfl (by first | with_reducible assumption | (rw [bv_length]; with_reducible assumption) | (rw [List.size_toArray, bv_length]; with_reducible assumption) | (simp [cat, msgC, jbC, sgdC, rcpC, hm.h0, hm.h1, hm.go, hm.sec, hm.j, hm.rh, hm.rb, zc78, zc82, zc54, length_zsum]; done) | (simp [cat, msgC, jbC, sgdC, rcpC, hm.h0, hm.h1, hm.go, hm.sec, hm.j, hm.rh, hm.rb, zc78, zc82, zc54, length_zsum]; omega) | rfl)) rfl hS ?_
        refine q_val (fun w hS => e_field rfl Try.underlying78 rfl sz2 (by decide)) rfl hS ?_
        refine q_val (fun w hS => e_loadF1 (i := 1) (off := 1) rfl ag2 hS (j := 0) rfl rfl rfl (by first | with_reducible assumption | (rw [bv_length]; with_reducible assumption) | (rw [List.size_toArray, bv_length]; with_reducible assumption) | (simp [cat, msgC, jbC, sgdC, rcpC, hm.h0, hm.h1, hm.go, hm.sec, hm.j, hm.rh, hm.rb, zc78, zc82, zc54, length_zsum]; done) | (simp [cat, msgC, jbC, sgdC, rcpC, hm.h0, hm.h1, hm.go, hm.sec, hm.j, hm.rh, hm.rb, zc78, zc82, zc54, length_zsum]; omega) | rfl)) rfl hS ?_
        refine q_val (fun w hS => e_field rfl Try.underlying78 rfl sz2 (by decide)) rfl hS ?_
        refine q_val (fun w hS => e_loadF1 (i := 2) (off := 2) rfl ag2 hS (j := 0) rfl rfl rfl (by first | with_reducible assumption | (rw [bv_length]; with_reducible assumption) | (rw [List.size_toArray, bv_length]; with_reducible assumption) | (simp [cat, msgC, jbC, sgdC, rcpC, hm.h0, hm.h1, hm.go, hm.sec, hm.j, hm.rh, hm.rb, zc78, zc82, zc54, length_zsum]; done) | (simp [cat, msgC, jbC, sgdC, rcpC, hm.h0, hm.h1, hm.go, hm.sec, hm.j, hm.rh, hm.rb, zc78, zc82, zc54, length_zsum]; omega) | rfl)) rfl hS ?_
        refine q_val (fun w hS => e_field rfl Try.underlying78 rfl sz76 (by decide)) rfl hS ?_
        refine q_val (fun w hS => e_ix_arr rfl rfl Try.underlying76 sz44 (by omega)) rfl hS ?_
        refine q_val (fun w hS => e_loadFA (i := 3) (off := 3) rfl ag44 sz44 (by decide) hS (j := 0) rfl rfl rfl (by first | with_reducible assumption | (rw [bv_length]; with_reducible assumption) | (rw [List.size_toArray, bv_length]; with_reducible assumption) | (simp [cat, msgC, jbC, sgdC, rcpC, hm.h0, hm.h1, hm.go, hm.sec, hm.j, hm.rh, hm.rb, zc78, zc82, zc54, length_zsum]; done) | (simp [cat, msgC, jbC, sgdC, rcpC, hm.h0, hm.h1, hm.go, hm.sec, hm.j, hm.rh, hm.rb, zc78, zc82, zc54, length_zsum]; omega) | rfl) (by first | with_reducible assumption | (rw [bv_length]; with_reducible assumption) | (rw [List.size_toArray, bv_length]; with_reducible assumption) | (simp [cat, msgC, jbC, sgdC, rcpC, hm.h0, hm.h1, hm.go, hm.sec, hm.j, hm.rh, hm.rb, zc78, zc82, zc54, length_zsum]; done) | (simp [cat, msgC, jbC, sgdC, rcpC, hm.h0, hm.h1, hm.go, hm.sec, hm.j, hm.rh, hm.rb, zc78, zc82, zc54, length_zsum]; omega) | rfl)) rfl hS ?_
        refine q_val (fun w hS => e_field rfl Try.underlying78 rfl sz76 (by decide)) rfl hS ?_
        refine q_val (fun w hS => e_ix_arr rfl rfl Try.underlying76 sz44 (by omega)) rfl hS ?_
        refine q_val (fun w hS => e_loadFA (i := 4) (off := 35) rfl ag44 sz44 (by decide) hS (j := 0) rfl rfl rfl (by first | with_reducible assumption | (rw [bv_length]; with_reducible assumption) | (rw [List.size_toArray, bv_length]; with_reducible assumption) | (simp [cat, msgC, jbC, sgdC, rcpC, hm.h0, hm.h1, hm.go, hm.sec, hm.j, hm.rh, hm.rb, zc78, zc82, zc54, length_zsum]; done) | (simp [cat, msgC, jbC, sgdC, rcpC, hm.h0, hm.h1, hm.go, hm.sec, hm.j, hm.rh, hm.rb, zc78, zc82, zc54, length_zsum]; omega) | rfl) (by first | with_reducible assumption | (rw [bv_length]; with_reducible assumption) | (rw [List.size_toArray, bv_length]; with_reducible assumption) | (simp [cat, msgC, jbC, sgdC, rcpC, hm.h0, hm.h1, hm.go, hm.sec, hm.j, hm.rh, hm.rb, zc78, zc82, zc54, length_zsum]; done) | (simp [cat, msgC, jbC, sgdC, rcpC, hm.h0, hm.h1, hm.go, hm.sec, hm.j, hm.rh, hm.rb, zc78, zc82, zc54, length_zsum]; omega) | rfl)) rfl hS ?_
        refine q_val (fun w hS => e_field rfl Try.underlying84 rfl sz80 (by decide)) rfl hS ?_
        refine q_val (fun w hS => e_field rfl Try.underlying80 rfl sz3 (by decide)) rfl hS ?_
        refine q_val (fun w hS => e_loadF1 (i := 8) (off := 70) rfl ag3 hS (j := 2) rfl rfl rfl (by first | with_reducible assumption | (rw [bv_length]; with_reducible assumption) | (rw [List.size_toArray, bv_length]; with_reducible assumption) | (simp [cat, msgC, jbC, sgdC, rcpC, hm.h0, hm.h1, hm.go, hm.sec, hm.j, hm.rh, hm.rb, zc78, zc82, zc54, length_zsum]; done) | (simp [cat, msgC, jbC, sgdC, rcpC, hm.h0, hm.h1, hm.go, hm.sec, hm.j, hm.rh, hm.rb, zc78, zc82, zc54, length_zsum]; omega) | rfl)) rfl hS ?_
        refine q_val (fun w hS => e_field rfl Try.underlying84 rfl sz80 (by decide)) rfl hS ?_
        refine q_val (fun w hS => e_field rfl Try.underlying80 rfl sz44 (by decide)) rfl hS ?_
        refine q_val (fun w hS => e_loadFA (i := 9) (off := 71) rfl ag44 sz44 (by decide) hS (j := 2) rfl rfl rfl (by first | with_reducible assumption | (rw [bv_length]; with_reducible assumption) | (rw [List.size_toArray, bv_length]; with_reducible assumption) | (simp [cat, msgC, jbC, sgdC, rcpC, hm.h0, hm.h1, hm.go, hm.sec, hm.j, hm.rh, hm.rb, zc78, zc82, zc54, length_zsum]; done) | (simp [cat, msgC, jbC, sgdC, rcpC, hm.h0, hm.h1, hm.go, hm.sec, hm.j, hm.rh, hm.rb, zc78, zc82, zc54, length_zsum]; omega) | rfl) (by first | with_reducible assumption | (rw [bv_length]; with_reducible assumption) | (rw [List.size_toArray, bv_length]; with_reducible assumption) | (simp [cat, msgC, jbC, sgdC, rcpC, hm.h0, hm.h1, hm.go, hm.sec, hm.j, hm.rh, hm.rb, zc78, zc82, zc54, length_zsum]; done) | (simp [cat, msgC, jbC, sgdC, rcpC, hm.h0, hm.h1, hm.go, hm.sec, hm.j, hm.rh, hm.rb, zc78, zc82, zc54, length_zsum]; omega) | rfl)) rfl hS ?_
        refine q_does (d_litI S Try.underlying31 sz3 zv3 rfl (l := [_, _, _]) rfl rfl (by decide)) rfl ?_
        rintro _ w ⟨b33, rfl, S⟩
        have hS := S.pk [1, 2, 5] rfl
        refine ⟨hS, ?_⟩
        refine q_does (d_call Try.func58 nm58 rfl rfl (pen_nums _ _ _ _ _ _ _ _ _ (S.hr [3, 4] rfl) (S.rdRw 0 rfl rfl) (S.offRow 0 [3, 4] rfl rfl) (by first | omega | (simp only [List.length_append, List.length_cons, List.length_nil, bv_length, msgC, jbC, sgdC, rcpC, hm.h0, hm.h1, hm.go, hm.sec, hm.j, hm.rh, hm.rb, zc78, zc82, zc54, length_zsum]; omega) | (simp [cat, msgC, jbC, sgdC, rcpC, hm.h0, hm.h1, hm.go, hm.sec, hm.j, hm.rh, hm.rb, zc78, zc82, zc54, length_zsum]; omega)) (by decide))) rfl ?_
        rintro _ w ⟨rfl, k34, c34, T⟩
        have S := (S.call [3, 4] T rfl).pk [2, 3, 4, 0, 1, 7] rfl
        have hS := S.pk [1, 2, 5] rfl
        refine ⟨hS, ?_⟩
        refine q_does (d_call Try.func57 nm57 rfl rfl (pen_sum _ _ _ _ _ _ (S.hr [3, 4] rfl) (by first | with_reducible assumption | (rw [bv_length]; with_reducible assumption) | (rw [List.size_toArray, bv_length]; with_reducible assumption) | (simp [cat, msgC, jbC, sgdC, rcpC, hm.h0, hm.h1, hm.go, hm.sec, hm.j, hm.rh, hm.rb, zc78, zc82, zc54, length_zsum]; done) | (simp [cat, msgC, jbC, sgdC, rcpC, hm.h0, hm.h1, hm.go, hm.sec, hm.j, hm.rh, hm.rb, zc78, zc82, zc54, length_zsum]; omega) | rfl) (by first | omega | (simp only [List.length_append, List.length_cons, List.length_nil, bv_length, msgC, jbC, sgdC, rcpC, hm.h0, hm.h1, hm.go, hm.sec, hm.j, hm.rh, hm.rb, zc78, zc82, zc54, length_zsum]; omega) | (simp [cat, msgC, jbC, sgdC, rcpC, hm.h0, hm.h1, hm.go, hm.sec, hm.j, hm.rh, hm.rb, zc78, zc82, zc54, length_zsum]; omega)))) rfl ?_
        rintro _ w ⟨rfl, k38, c38, T⟩
        have S := (S.call [3, 4] T rfl).pk [2, 3, 4, 0, 1, 7] rfl
        have hS := S.pk [1, 2, 5] rfl
        refine ⟨hS, ?_⟩
        refine q_does (d_call Try.func57 nm57 rfl rfl (pen_sum _ _ _ _ _ _ (S.hr [3, 4] rfl) (by first | with_reducible assumption | (rw [bv_length]; with_reducible assumption) | (rw [List.size_toArray, bv_length]; with_reducible assumption) | (simp [cat, msgC, jbC, sgdC, rcpC, hm.h0, hm.h1, hm.go, hm.sec, hm.j, hm.rh, hm.rb, zc78, zc82, zc54, length_zsum]; done) | (simp [cat, msgC, jbC, sgdC, rcpC, hm.h0, hm.h1, hm.go, hm.sec, hm.j, hm.rh, hm.rb, zc78, zc82, zc54, length_zsum]; omega) | rfl) (by first | omega | (simp only [List.length_append, List.length_cons, List.length_nil, bv_length, msgC, jbC, sgdC, rcpC, hm.h0, hm.h1, hm.go, hm.sec, hm.j, hm.rh, hm.rb, zc78, zc82, zc54, length_zsum]; omega) | (simp [cat, msgC, jbC, sgdC, rcpC, hm.h0, hm.h1, hm.go, hm.sec, hm.j, hm.rh, hm.rb, zc78, zc82, zc54, length_zsum]; omega)))) rfl ?_
        rintro _ w ⟨rfl, k42, c42, T⟩
        have S := (S.call [3, 4] T rfl).pk [2, 3, 4, 0, 1, 7] rfl
        have hS := S.pk [1, 2, 5] rfl
        refine ⟨hS, ?_⟩
        refine q_does (d_call Try.func56 nm56 rfl rfl (pen_num _ _ _ _ _ _ (S.hr [3, 4] rfl) (by first | omega | (simp only [List.length_append, List.length_cons, List.length_nil, bv_length, msgC, jbC, sgdC, rcpC, hm.h0, hm.h1, hm.go, hm.sec, hm.j, hm.rh, hm.rb, zc78, zc82, zc54, length_zsum]; omega) | (simp [cat, msgC, jbC, sgdC, rcpC, hm.h0, hm.h1, hm.go, hm.sec, hm.j, hm.rh, hm.rb, zc78, zc82, zc54, length_zsum]; omega)))) rfl ?_
        rintro _ w ⟨rfl, k46, c46, T⟩
        have S := (S.call [3, 4] T rfl).pk [2, 3, 4, 0, 1, 7] rfl
        have hS := S.pk [1, 2, 5] rfl
        refine ⟨hS, ?_⟩
        refine q_does (d_call Try.func57 nm57 rfl rfl (pen_sum _ _ _ _ _ _ (S.hr [3, 4] rfl) (by first | with_reducible assumption | (rw [bv_length]; with_reducible assumption) | (rw [List.size_toArray, bv_length]; with_reducible assumption) | (simp [cat, msgC, jbC, sgdC, rcpC, hm.h0, hm.h1, hm.go, hm.sec, hm.j, hm.rh, hm.rb, zc78, zc82, zc54, length_zsum]; done) | (simp [cat, msgC, jbC, sgdC, rcpC, hm.h0, hm.h1, hm.go, hm.sec, hm.j, hm.rh, hm.rb, zc78, zc82, zc54, length_zsum]; omega) | rfl) (by first | omega | (simp only [List.length_append, List.length_cons, List.length_nil, bv_length, msgC, jbC, sgdC, rcpC, hm.h0, hm.h1, hm.go, hm.sec, hm.j, hm.rh, hm.rb, zc78, zc82, zc54, length_zsum]; omega) | (simp [cat, msgC, jbC, sgdC, rcpC, hm.h0, hm.h1, hm.go, hm.sec, hm.j, hm.rh, hm.rb, zc78, zc82, zc54, length_zsum]; omega)))) rfl ?_
        rintro _ w ⟨rfl, k50, c50, T⟩
        have S := (S.call [3, 4] T rfl).pk [2, 3, 4, 0, 1, 7] rfl
        have hS := S.pk [1, 2, 5] rfl
        refine ⟨hS, ?_⟩
        refine q_nil (p_nil (x_in ?_))
        exact x_then ⟨_, rfl, _, _, _, _, upds_eq ⟨rfl, trivial⟩, by simp [tput, tbody, hc25, nums], S.pk [1, 2, 3, 4, 5] rfl⟩
      · refine s_seq (s_plain ?_)
        refine p_val (e_eql rfl rfl) rfl ?_
        refine p_val (e_assign (v := .bool _) rfl) rfl ?_
        refine p_nil (x_then ?_)
        refine s_cond rfl (fun hc51 => ?_) (fun hc51 => ?_)
        · refine s_drawK (ks := [some b5, some b15, some b1]) (ps := [Ex _ _, Rw _ _ _ _ _, Ex _ _]) (S.pk [0, 1, 4] rfl) [(true, 0), (true, 1), (true, 3), (true, 4), (true, 6), (true, 7), (true, 8), (true, 10), (true, 11), (true, 12), (false, 2), (false, 5), (false, 9), (false, 13)] [] [] mixed (by kernel_rfl) (by repeat (first | exact Calm.post _ _ _ | refine Calm.then ?_ _ | refine Calm.inB ?_ _)) (fun hS => ?_)
          have S := S.drew
          refine q_val (fun w hS => e_field rfl Try.underlying84 rfl sz3 (by decide)) rfl hS ?_
          refine q_val (fun w hS => e_loadF1 (i := 10) (off := 103) rfl ag3 hS (j := 2) rfl rfl rfl (by first | with_reducible assumption | (rw [bv_length]; with_reducible assumption) | (rw [List.size_toArray, bv_length]; with_reducible assumption) | (simp [cat, msgC, jbC, sgdC, rcpC, hm.h0, hm.h1, hm.go, hm.sec, hm.j, hm.rh, hm.rb, zc78, zc82, zc54, length_zsum]; done) | (simp [cat, msgC, jbC, sgdC, rcpC, hm.h0, hm.h1, hm.go, hm.sec, hm.j, hm.rh, hm.rb, zc78, zc82, zc54, length_zsum]; omega) | rfl)) rfl hS ?_
          refine q_val (fun w hS => e_field rfl Try.underlying84 rfl sz44 (by decide)) rfl hS ?_
          refine q_val (fun w hS => e_loadFA (i := 11) (off := 104) rfl ag44 sz44 (by decide) hS (j := 2) rfl rfl rfl (by first | with_reducible assumption | (rw [bv_length]; with_reducible assumption) | (rw [List.size_toArray, bv_length]; with_reducible assumption) | (simp [cat, msgC, jbC, sgdC, rcpC, hm.h0, hm.h1, hm.go, hm.sec, hm.j, hm.rh, hm.rb, zc78, zc82, zc54, length_zsum]; done) | (simp [cat, msgC, jbC, sgdC, rcpC, hm.h0, hm.h1, hm.go, hm.sec, hm.j, hm.rh, hm.rb, zc78, zc82, zc54, length_zsum]; omega) | rfl) (by first | with_reducible assumption | (rw [bv_length]; with_reducible assumption) | (rw [List.size_toArray, bv_length]; with_reducible assumption) | (simp [cat, msgC, jbC, sgdC, rcpC, hm.h0, hm.h1, hm.go, hm.sec, hm.j, hm.rh, hm.rb, zc78, zc82, zc54, length_zsum]; done) | (simp [cat, msgC, jbC, sgdC, rcpC, hm.h0, hm.h1, hm.go, hm.sec, hm.j, hm.rh, hm.rb, zc78, zc82, zc54, length_zsum]; omega) | rfl)) rfl hS ?_
          refine q_val (fun w hS => e_field rfl Try.underlying84 rfl sz80 (by decide)) rfl hS ?_
          refine q_val (fun w hS => e_field rfl Try.underlying80 rfl sz3 (by decide)) rfl hS ?_
          refine q_val (fun w hS => e_loadF1 (i := 8) (off := 70) rfl ag3 hS (j := 2) rfl rfl rfl (by first | with_reducible assumption | (rw [bv_length]; with_reducible assumption) | (rw [List.size_toArray, bv_length]; with_reducible assumption) | (simp [cat, msgC, jbC, sgdC, rcpC, hm.h0, hm.h1, hm.go, hm.sec, hm.j, hm.rh, hm.rb, zc78, zc82, zc54, length_zsum]; done) | (simp [cat, msgC, jbC, sgdC, rcpC, hm.h0, hm.h1, hm.go, hm.sec, hm.j, hm.rh, hm.rb, zc78, zc82, zc54, length_zsum]; omega) | rfl)) rfl hS ?_
          refine q_val (fun w hS => e_field rfl Try.underlying84 rfl sz80 (by decide)) rfl hS ?_
          refine q_val (fun w hS => e_field rfl Try.underlying80 rfl sz44 (by decide)) rfl hS ?_
          refine q_val (fun w hS => e_loadFA (i := 9) (off := 71) rfl ag44 sz44 (by decide) hS (j := 2) rfl rfl rfl (by first | with_reducible assumption | (rw [bv_length]; with_reducible assumption) | (rw [List.size_toArray, bv_length]; with_reducible assumption) | (simp [cat, msgC, jbC, sgdC, rcpC, hm.h0, hm.h1, hm.go, hm.sec, hm.j, hm.rh, hm.rb, zc78, zc82, zc54, length_zsum]; done) | (simp [cat, msgC, jbC, sgdC, rcpC, hm.h0, hm.h1, hm.go, hm.sec, hm.j, hm.rh, hm.rb, zc78, zc82, zc54, length_zsum]; omega) | rfl) (by first | with_reducible assumption | (rw [bv_length]; with_reducible assumption) | (rw [List.size_toArray, bv_length]; with_reducible assumption) | (simp [cat, msgC, jbC, sgdC, rcpC, hm.h0, hm.h1, hm.go, hm.sec, hm.j, hm.rh, hm.rb, zc78, zc82, zc54, length_zsum]; done) | (simp [cat, msgC, jbC, sgdC, rcpC, hm.h0, hm.h1, hm.go, hm.sec, hm.j, hm.rh, hm.rb, zc78, zc82, zc54, length_zsum]; omega) | rfl)) rfl hS ?_
          refine q_does (d_call Try.func56 nm56 rfl rfl (pen_num _ _ _ _ _ _ (S.hr [2, 3] rfl) (by first | omega | (simp only [List.length_append, List.length_cons, List.length_nil, bv_length, msgC, jbC, sgdC, rcpC, hm.h0, hm.h1, hm.go, hm.sec, hm.j, hm.rh, hm.rb, zc78, zc82, zc54, length_zsum]; omega) | (simp [cat, msgC, jbC, sgdC, rcpC, hm.h0, hm.h1, hm.go, hm.sec, hm.j, hm.rh, hm.rb, zc78, zc82, zc54, length_zsum]; omega)))) rfl ?_
          rintro _ w ⟨rfl, k55, c55, T⟩
          have S := (S.call [2, 3] T rfl).pk [2, 3, 0, 1, 6] rfl
          have hS := S.pk [0, 1, 4] rfl
          refine ⟨hS, ?_⟩
          refine q_does (d_call Try.func57 nm57 rfl rfl (pen_sum _ _ _ _ _ _ (S.hr [2, 3] rfl) (by first | with_reducible assumption | (rw [bv_length]; with_reducible assumption) | (rw [List.size_toArray, bv_length]; with_reducible assumption) | (simp [cat, msgC, jbC, sgdC, rcpC, hm.h0, hm.h1, hm.go, hm.sec, hm.j, hm.rh, hm.rb, zc78, zc82, zc54, length_zsum]; done) | (simp [cat, msgC, jbC, sgdC, rcpC, hm.h0, hm.h1, hm.go, hm.sec, hm.j, hm.rh, hm.rb, zc78, zc82, zc54, length_zsum]; omega) | rfl) (by first | omega | (simp only [List.length_append, List.length_cons, List.length_nil, bv_length, msgC, jbC, sgdC, rcpC, hm.h0, hm.h1, hm.go, hm.sec, hm.j, hm.rh, hm.rb, zc78, zc82, zc54, length_zsum]; omega) | (simp [cat, msgC, jbC, sgdC, rcpC, hm.h0, hm.h1, hm.go, hm.sec, hm.j, hm.rh, hm.rb, zc78, zc82, zc54, length_zsum]; omega)))) rfl ?_
          rintro _ w ⟨rfl, k58, c58, T⟩
          have S := (S.call [2, 3] T rfl).pk [2, 3, 0, 1, 6] rfl
          have hS := S.pk [0, 1, 4] rfl
          refine ⟨hS, ?_⟩
          refine q_does (d_call Try.func56 nm56 rfl rfl (pen_num _ _ _ _ _ _ (S.hr [2, 3] rfl) (by first | omega | (simp only [List.length_append, List.length_cons, List.length_nil, bv_length, msgC, jbC, sgdC, rcpC, hm.h0, hm.h1, hm.go, hm.sec, hm.j, hm.rh, hm.rb, zc78, zc82, zc54, length_zsum]; omega) | (simp [cat, msgC, jbC, sgdC, rcpC, hm.h0, hm.h1, hm.go, hm.sec, hm.j, hm.rh, hm.rb, zc78, zc82, zc54, length_zsum]; omega)))) rfl ?_
          rintro _ w ⟨rfl, k62, c62, T⟩
          have S := (S.call [2, 3] T rfl).pk [2, 3, 0, 1, 6] rfl
          have hS := S.pk [0, 1, 4] rfl
          refine ⟨hS, ?_⟩
          refine q_does (d_call Try.func57 nm57 rfl rfl (pen_sum _ _ _ _ _ _ (S.hr [2, 3] rfl) (by first | with_reducible assumption | (rw [bv_length]; with_reducible assumption) | (rw [List.size_toArray, bv_length]; with_reducible assumption) | (simp [cat, msgC, jbC, sgdC, rcpC, hm.h0, hm.h1, hm.go, hm.sec, hm.j, hm.rh, hm.rb, zc78, zc82, zc54, length_zsum]; done) | (simp [cat, msgC, jbC, sgdC, rcpC, hm.h0, hm.h1, hm.go, hm.sec, hm.j, hm.rh, hm.rb, zc78, zc82, zc54, length_zsum]; omega) | rfl) (by first | omega | (simp only [List.length_append, List.length_cons, List.length_nil, bv_length, msgC, jbC, sgdC, rcpC, hm.h0, hm.h1, hm.go, hm.sec, hm.j, hm.rh, hm.rb, zc78, zc82, zc54, length_zsum]; omega) | (simp [cat, msgC, jbC, sgdC, rcpC, hm.h0, hm.h1, hm.go, hm.sec, hm.j, hm.rh, hm.rb, zc78, zc82, zc54, length_zsum]; omega)))) rfl ?_
          rintro _ w ⟨rfl, k66, c66, T⟩
          have S := (S.call [2, 3] T rfl).pk [2, 3, 0, 1, 6] rfl
          have hS := S.pk [0, 1, 4] rfl
          refine ⟨hS, ?_⟩
          refine q_nil (p_nil (x_in ?_))
          exact x_then ⟨_, rfl, _, _, _, _, upds_eq ⟨rfl, trivial⟩, by simp [tput, tbody, hc51, nums], S⟩
        · refine s_seq (s_plain ?_)
          refine p_val (e_eql rfl rfl) rfl ?_
          refine p_val (e_assign (v := .bool _) rfl) rfl ?_
          refine p_nil (x_then ?_)
          refine s_cond rfl (fun hc67 => ?_) (fun hc67 => ?_)
          · refine s_drawK (ks := [some b5, some b15, some b1]) (ps := [Ex _ _, Rw _ _ _ _ _, Ex _ _]) (S.pk [0, 1, 4] rfl) [(true, 0), (true, 1), (true, 3), (true, 4), (false, 2), (false, 5)] [] [] mixed (by kernel_rfl) (by repeat (first | exact Calm.post _ _ _ | refine Calm.then ?_ _ | refine Calm.inB ?_ _)) (fun hS => ?_)
            have S := S.drew
            refine q_val (fun w hS => e_field rfl Try.underlying84 rfl sz3 (by decide)) rfl hS ?_
            refine q_val (fun w hS => e_loadF1 (i := 10) (off := 103) rfl ag3 hS (j := 2) rfl rfl rfl (by first | with_reducible assumption | (rw [bv_length]; with_reducible assumption) | (rw [List.size_toArray, bv_length]; with_reducible assumption) | (simp [cat, msgC, jbC, sgdC, rcpC, hm.h0, hm.h1, hm.go, hm.sec, hm.j, hm.rh, hm.rb, zc78, zc82, zc54, length_zsum]; done) | (simp [cat, msgC, jbC, sgdC, rcpC, hm.h0, hm.h1, hm.go, hm.sec, hm.j, hm.rh, hm.rb, zc78, zc82, zc54, length_zsum]; omega) | rfl)) rfl hS ?_
            refine q_val (fun w hS => e_field rfl Try.underlying84 rfl sz44 (by decide)) rfl hS ?_
            refine q_val (fun w hS => e_loadFA (i := 11) (off := 104) rfl ag44 sz44 (by decide) hS (j := 2) rfl rfl rfl (by first | with_reducible assumption | (rw [bv_length]; with_reducible assumption) | (rw [List.size_toArray, bv_length]; with_reducible assumption) | (simp [cat, msgC, jbC, sgdC, rcpC, hm.h0, hm.h1, hm.go, hm.sec, hm.j, hm.rh, hm.rb, zc78, zc82, zc54, length_zsum]; done) | (simp [cat, msgC, jbC, sgdC, rcpC, hm.h0, hm.h1, hm.go, hm.sec, hm.j, hm.rh, hm.rb, zc78, zc82, zc54, length_zsum]; omega) | rfl) (by first | with_reducible assumption | (rw [bv_length]; with_reducible assumption) | (rw [List.size_toArray, bv_length]; with_reducible assumption) | (simp [cat, msgC, jbC, sgdC, rcpC, hm.h0, hm.h1, hm.go, hm.sec, hm.j, hm.rh, hm.rb, zc78, zc82, zc54, length_zsum]; done) | (simp [cat, msgC, jbC, sgdC, rcpC, hm.h0, hm.h1, hm.go, hm.sec, hm.j, hm.rh, hm.rb, zc78, zc82, zc54, length_zsum]; omega) | rfl)) rfl hS ?_
            refine q_does (d_call Try.func56 nm56 rfl rfl (pen_num _ _ _ _ _ _ (S.hr [2, 3] rfl) (by first | omega | (simp only [List.length_append, List.length_cons, List.length_nil, bv_length, msgC, jbC, sgdC, rcpC, hm.h0, hm.h1, hm.go, hm.sec, hm.j, hm.rh, hm.rb, zc78, zc82, zc54, length_zsum]; omega) | (simp [cat, msgC, jbC, sgdC, rcpC, hm.h0, hm.h1, hm.go, hm.sec, hm.j, hm.rh, hm.rb, zc78, zc82, zc54, length_zsum]; omega)))) rfl ?_
            rintro _ w ⟨rfl, k71, c71, T⟩
            have S := (S.call [2, 3] T rfl).pk [2, 3, 0, 1, 6] rfl
            have hS := S.pk [0, 1, 4] rfl
            refine ⟨hS, ?_⟩
            refine q_does (d_call Try.func57 nm57 rfl rfl (pen_sum _ _ _ _ _ _ (S.hr [2, 3] rfl) (by first | with_reducible assumption | (rw [bv_length]; with_reducible assumption) | (rw [List.size_toArray, bv_length]; with_reducible assumption) | (simp [cat, msgC, jbC, sgdC, rcpC, hm.h0, hm.h1, hm.go, hm.sec, hm.j, hm.rh, hm.rb, zc78, zc82, zc54, length_zsum]; done) | (simp [cat, msgC, jbC, sgdC, rcpC, hm.h0, hm.h1, hm.go, hm.sec, hm.j, hm.rh, hm.rb, zc78, zc82, zc54, length_zsum]; omega) | rfl) (by first | omega | (simp only [List.length_append, List.length_cons, List.length_nil, bv_length, msgC, jbC, sgdC, rcpC, hm.h0, hm.h1, hm.go, hm.sec, hm.j, hm.rh, hm.rb, zc78, zc82, zc54, length_zsum]; omega) | (simp [cat, msgC, jbC, sgdC, rcpC, hm.h0, hm.h1, hm.go, hm.sec, hm.j, hm.rh, hm.rb, zc78, zc82, zc54, length_zsum]; omega)))) rfl ?_
            rintro _ w ⟨rfl, k74, c74, T⟩
            have S := (S.call [2, 3] T rfl).pk [2, 3, 0, 1, 6] rfl
            have hS := S.pk [0, 1, 4] rfl
            refine ⟨hS, ?_⟩
            refine q_nil (p_nil (x_in ?_))
            exact x_then ⟨_, rfl, _, _, _, _, upds_eq ⟨rfl, trivial⟩, by simp [tput, tbody, hc67, nums], S⟩
          · refine s_seq (s_plain ?_)
            refine p_val (e_eql rfl rfl) rfl ?_
            refine p_val (e_assign (v := .bool _) rfl) rfl ?_
            refine p_nil (x_then ?_)
            refine s_cond rfl (fun hc75 => ?_) (fun hc75 => ?_)
            · refine s_plain ?_
              refine p_val (e_field rfl Try.underlying84 rfl sz82 (by decide)) rfl ?_
              refine p_val (e_loadFS (i := 12) (n := 4) (off := 136) rfl ag82 sz82 (by decide) S (j := 4) rfl rfl (by first | with_reducible assumption | (rw [bv_length]; with_reducible assumption) | (rw [List.size_toArray, bv_length]; with_reducible assumption) | (simp [cat, msgC, jbC, sgdC, rcpC, hm.h0, hm.h1, hm.go, hm.sec, hm.j, hm.rh, hm.rb, zc78, zc82, zc54, length_zsum]; done) | (simp [cat, msgC, jbC, sgdC, rcpC, hm.h0, hm.h1, hm.go, hm.sec, hm.j, hm.rh, hm.rb, zc78, zc82, zc54, length_zsum]; omega) | rfl) (by first | with_reducible assumption | (rw [bv_length]; with_reducible assumption) | (rw [List.size_toArray, bv_length]; with_reducible assumption) | (simp [cat, msgC, jbC, sgdC, rcpC, hm.h0, hm.h1, hm.go, hm.sec, hm.j, hm.rh, hm.rb, zc78, zc82, zc54, length_zsum]; done) | (simp [cat, msgC, jbC, sgdC, rcpC, hm.h0, hm.h1, hm.go, hm.sec, hm.j, hm.rh, hm.rb, zc78, zc82, zc54, length_zsum]; omega) | rfl)) rfl ?_
              refine p_does (d_call Try.func67 nm67 rfl rfl (jb_put _ m.j _ _ b hj (S.rdOld RB rfl) (by first | omega | (simp only [List.length_append, List.length_cons, List.length_nil, bv_length, msgC, jbC, sgdC, rcpC, hm.h0, hm.h1, hm.go, hm.sec, hm.j, hm.rh, hm.rb, zc78, zc82, zc54, length_zsum]; omega) | (simp [cat, msgC, jbC, sgdC, rcpC, hm.h0, hm.h1, hm.go, hm.sec, hm.j, hm.rh, hm.rb, zc78, zc82, zc54, length_zsum]; omega)))) rfl ?_
              rintro _ w ⟨k79, c79, rfl, T⟩
              have S := S.merge T rfl
              refine p_does (d_call Try.func25 nm25 rfl rfl (pen_text _ _ _ _ _ _ _ _ _ (S.hr [3, 4] rfl) (S.rdRw 0 rfl rfl) (S.offRow 0 [3, 4] rfl rfl) (by first | omega | (simp only [List.length_append, List.length_cons, List.length_nil, bv_length, msgC, jbC, sgdC, rcpC, hm.h0, hm.h1, hm.go, hm.sec, hm.j, hm.rh, hm.rb, zc78, zc82, zc54, length_zsum]; omega) | (simp [cat, msgC, jbC, sgdC, rcpC, hm.h0, hm.h1, hm.go, hm.sec, hm.j, hm.rh, hm.rb, zc78, zc82, zc54, length_zsum]; omega)))) rfl ?_
              rintro _ w ⟨rfl, k80, c80, T⟩
              have S := (S.call [3, 4] T rfl).pk [2, 3, 4, 0, 1, 7] rfl
              refine p_nil (x_in ?_)
              exact x_then ⟨_, rfl, _, _, _, _, upds_eq ⟨rfl, trivial⟩, by simp [tput, tbody, hc75, nums], S.pk [1, 2, 3, 4, 5] rfl⟩
            · refine s_plain ?_
              refine p_val (e_field rfl Try.underlying84 rfl sz54 (by decide)) rfl ?_
              refine p_val (e_loadFS (i := 16) (n := 6) (off := 171) rfl ag54 sz54 (by decide) S (j := 4) rfl rfl (by first | with_reducible assumption | (rw [bv_length]; with_reducible assumption) | (rw [List.size_toArray, bv_length]; with_reducible assumption) | (simp [cat, msgC, jbC, sgdC, rcpC, hm.h0, hm.h1, hm.go, hm.sec, hm.j, hm.rh, hm.rb, zc78, zc82, zc54, length_zsum]; done) | (simp [cat, msgC, jbC, sgdC, rcpC, hm.h0, hm.h1, hm.go, hm.sec, hm.j, hm.rh, hm.rb, zc78, zc82, zc54, length_zsum]; omega) | rfl) (by first | with_reducible assumption | (rw [bv_length]; with_reducible assumption) | (rw [List.size_toArray, bv_length]; with_reducible assumption) | (simp [cat, msgC, jbC, sgdC, rcpC, hm.h0, hm.h1, hm.go, hm.sec, hm.j, hm.rh, hm.rb, zc78, zc82, zc54, length_zsum]; done) | (simp [cat, msgC, jbC, sgdC, rcpC, hm.h0, hm.h1, hm.go, hm.sec, hm.j, hm.rh, hm.rb, zc78, zc82, zc54, length_zsum]; omega) | rfl)) rfl ?_
              refine p_does (d_call Try.func28 nm28 rfl rfl (sg_put _ m.r _ _ s hr (S.rdOld RS rfl) (by first | omega | (simp only [List.length_append, List.length_cons, List.length_nil, bv_length, msgC, jbC, sgdC, rcpC, hm.h0, hm.h1, hm.go, hm.sec, hm.j, hm.rh, hm.rb, zc78, zc82, zc54, length_zsum]; omega) | (simp [cat, msgC, jbC, sgdC, rcpC, hm.h0, hm.h1, hm.go, hm.sec, hm.j, hm.rh, hm.rb, zc78, zc82, zc54, length_zsum]; omega)))) rfl ?_
              rintro _ w ⟨k23, c23, rfl, T⟩
              have S := S.merge T rfl
              refine p_does (d_call Try.func25 nm25 rfl rfl (pen_text _ _ _ _ _ _ _ _ _ (S.hr [3, 4] rfl) (S.rdRw 0 rfl rfl) (S.offRow 0 [3, 4] rfl rfl) (by first | omega | (simp only [List.length_append, List.length_cons, List.length_nil, bv_length, msgC, jbC, sgdC, rcpC, hm.h0, hm.h1, hm.go, hm.sec, hm.j, hm.rh, hm.rb, zc78, zc82, zc54, length_zsum]; omega) | (simp [cat, msgC, jbC, sgdC, rcpC, hm.h0, hm.h1, hm.go, hm.sec, hm.j, hm.rh, hm.rb, zc78, zc82, zc54, length_zsum]; omega)))) rfl ?_
              rintro _ w ⟨rfl, k24, c24, T⟩
              have S := (S.call [3, 4] T rfl).pk [2, 3, 4, 0, 1, 7] rfl
              refine p_nil (x_in ?_)
              exact x_then ⟨_, rfl, _, _, _, _, upds_eq ⟨rfl, trivial⟩, by simp [tput, tbody, hc25, hc51, hc67, hc75, nums], S.pk [1, 2, 3, 4, 5] rfl⟩
    · rintro f w ⟨u, Kp4, Cp4, q, rfl, hq, S⟩
      have hql : q.length ≤ 300 + b.length + s.length := by rw [hq]; exact tput_len hm
      refine x_then (s_seq (s_plain ?_))
      refine p_does (d_call Try.func26 nm26 rfl rfl (pen_bytes _ _ _ _ _ (S.exact_ 2 rfl rfl) (S.rdRw 3 rfl rfl) (by first | omega | (simp only [List.length_append, List.length_cons, List.length_nil, bv_length, msgC, jbC, sgdC, rcpC, hm.h0, hm.h1, hm.go, hm.sec, hm.j, hm.rh, hm.rb, zc78, zc82, zc54, length_zsum]; omega) | (simp [cat, msgC, jbC, sgdC, rcpC, hm.h0, hm.h1, hm.go, hm.sec, hm.j, hm.rh, hm.rb, zc78, zc82, zc54, length_zsum]; omega)))) rfl ?_
      rintro _ w ⟨k81, c81, rfl, T⟩
      have S := S.merge T rfl
      refine p_val (e_assign (v := .slice _ _ _) rfl) rfl ?_
      refine p_val (e_assign (v := .int _ _) rfl) rfl ?_
      refine p_nil (x_then (s_ret ?_))
      exact post2 (v := .slice _ _ _) (x := .int _ _) Try.results44 rfl rfl (⟨_, _, q, _, rfl, fun _ => ⟨hq, rfl⟩, fun h => absurd hyes h, S.pk [0] rfl⟩)
theorem l28bytes (w0 : World) (m : Msg) (A1 : Option Addr) (x1 : Nat) (b : List Nat) (A2 : Option Addr) (x2 : Nat) (s : List Nat) (hm : m.ok) (RB : Rd w0 1 A1 b.length (bv b)) (RS : Rd w0 1 A2 s.length (bv s)) (nB : b.length ≤ 1000000000) (nS : s.length ≤ 1000000000) :
    Ret Try.prog 48 [.agg (cat (msgC m A1 b.length x1 A2 s.length x2)).toArray] w0 fun v w' => ∃ k c, v = .slice (at_ k) (tput m b s).length c ∧ St w0 w' [] [k] [Rw 5 1 (tput m b s).length c (bv (tput m b s))] := by
  refine enter Try.func48 rfl Try.ntmps48 (Nat.le_of_ble_eq_true rfl) ?_
  have S := St.init w0
  have hr : m.r.ok := ⟨hm.rh, hm.rb⟩
  have hj : m.j.ok := hm.j
  have hn1 := nums_len [m.k, m.f, m.t]
  have hn2 := nums_len [m.n, m.c, m.p]
  simp only [List.length_cons, List.length_nil] at hn1 hn2
  have hn3 := num_len m.gk
  have hn4 := num_len m.m
  have hn5 := jput_len (b := b) hj
  have hn6 := sput_len (s := s) hr
  have hn7 := num_len ((jput m.j b).length : Int)
  have hn8 := num_len ((sput m.r s).length : Int)
  have e0 := hm.h0
  have e1 := hm.h1
  have e2 := hm.go
  have e3 := hm.sec
  have k1 := num_len m.k
  have k2 := num_len m.f
  have k3 := num_len m.t
  have k4 := num_len m.n
  have k5 := num_len m.c
  have k6 := num_len m.p
  refine s_seq (s_plain ?_)
  refine p_does (d_boxA S rfl) rfl ?_
  rintro _ w ⟨b1, rfl, S⟩
  refine p_val (e_assign (v := .slice _ _ _) rfl) rfl ?_
  refine p_nil (x_then (s_seq (s_plain ?_)))
  refine p_does (d_allocA S zs56) rfl ?_
  rintro _ w ⟨b3, rfl, S⟩
  have S := pen_new S
  refine p_nil (x_then (s_seq ?_))
  refine s_drawK (ks := [some b1]) (ps := [Ex _ _]) (S.pk [2] rfl) [(true, 0), (true, 1), (true, 3), (true, 4), (true, 6), (true, 7), (false, 2), (false, 5), (false, 8)] [] [] mixed (by kernel_rfl) (by repeat (first | exact Calm.post _ _ _ | refine Calm.then ?_ _ | refine Calm.inB ?_ _)) (fun hS => ?_)
  have S := S.drew
  refine q_val (fun w hS => e_field rfl Try.underlying84 rfl sz3 (by decide)) rfl hS ?_
  refine q_val (fun w hS => e_loadF1 (i := 0) (off := 0) rfl ag3 hS (j := 0) rfl rfl rfl (by first | with_reducible assumption | (rw [bv_length]; with_reducible assumption) | (rw [List.size_toArray, bv_length]; with_reducible assumption) | (simp [cat, msgC, jbC, sgdC, rcpC, hm.h0, hm.h1, hm.go, hm.sec, hm.j, hm.rh, hm.rb, zc78, zc82, zc54, length_zsum]; done) | (simp [cat, msgC, jbC, sgdC, rcpC, hm.h0, hm.h1, hm.go, hm.sec, hm.j, hm.rh, hm.rb, zc78, zc82, zc54, length_zsum]; omega) | rfl)) rfl hS ?_
  refine q_val (fun w hS => e_field rfl Try.underlying84 rfl sz3 (by decide)) rfl hS ?_
  refine q_val (fun w hS => e_loadF1 (i := 1) (off := 1) rfl ag3 hS (j := 0) rfl rfl rfl (by first | with_reducible assumption | (rw [bv_length]; with_reducible assumption) | (rw [List.size_toArray, bv_length]; with_reducible assumption) | (simp [cat, msgC, jbC, sgdC, rcpC, hm.h0, hm.h1, hm.go, hm.sec, hm.j, hm.rh, hm.rb, zc78, zc82, zc54, length_zsum]; done) | (simp [cat, msgC, jbC, sgdC, rcpC, hm.h0, hm.h1, hm.go, hm.sec, hm.j, hm.rh, hm.rb, zc78, zc82, zc54, length_zsum]; omega) | rfl)) rfl hS ?_
  refine q_val (fun w hS => e_field rfl Try.underlying84 rfl sz3 (by decide)) rfl hS ?_
  refine q_val (fun w hS => e_loadF1 (i := 2) (off := 2) rfl ag3 hS (j := 0) rfl rfl rfl (by first | with_reducible assumption | (rw [bv_length]; with_reducible assumption) | (rw [List.size_toArray, bv_length]; with_reducible assumption) | (simp [cat, msgC, jbC, sgdC, rcpC, hm.h0, hm.h1, hm.go, hm.sec, hm.j, hm.rh, hm.rb, zc78, zc82, zc54, length_zsum]; done) | (simp [cat, msgC, jbC, sgdC, rcpC, hm.h0, hm.h1, hm.go, hm.sec, hm.j, hm.rh, hm.rb, zc78, zc82, zc54, length_zsum]; omega) | rfl)) rfl hS ?_
  refine q_does (d_call Try.func56 nm56 rfl rfl (pen_num _ _ _ _ _ _ (S.hr [0, 1] rfl) (by first | omega | (simp only [List.length_append, List.length_cons, List.length_nil, bv_length, msgC, jbC, sgdC, rcpC, hm.h0, hm.h1, hm.go, hm.sec, hm.j, hm.rh, hm.rb, zc78, zc82, zc54, length_zsum]; omega) | (simp [cat, msgC, jbC, sgdC, rcpC, hm.h0, hm.h1, hm.go, hm.sec, hm.j, hm.rh, hm.rb, zc78, zc82, zc54, length_zsum]; omega)))) rfl ?_
  rintro _ w ⟨rfl, k6, c6, T⟩
  have S := (S.call [0, 1] T rfl).pk [0, 1, 4] rfl
  have hS := S.pk [2] rfl
  refine ⟨hS, ?_⟩
  refine q_does (d_call Try.func56 nm56 rfl rfl (pen_num _ _ _ _ _ _ (S.hr [0, 1] rfl) (by first | omega | (simp only [List.length_append, List.length_cons, List.length_nil, bv_length, msgC, jbC, sgdC, rcpC, hm.h0, hm.h1, hm.go, hm.sec, hm.j, hm.rh, hm.rb, zc78, zc82, zc54, length_zsum]; omega) | (simp [cat, msgC, jbC, sgdC, rcpC, hm.h0, hm.h1, hm.go, hm.sec, hm.j, hm.rh, hm.rb, zc78, zc82, zc54, length_zsum]; omega)))) rfl ?_
  rintro _ w ⟨rfl, k9, c9, T⟩
  have S := (S.call [0, 1] T rfl).pk [0, 1, 4] rfl
  have hS := S.pk [2] rfl
  refine ⟨hS, ?_⟩
  refine q_does (d_call Try.func56 nm56 rfl rfl (pen_num _ _ _ _ _ _ (S.hr [0, 1] rfl) (by first | omega | (simp only [List.length_append, List.length_cons, List.length_nil, bv_length, msgC, jbC, sgdC, rcpC, hm.h0, hm.h1, hm.go, hm.sec, hm.j, hm.rh, hm.rb, zc78, zc82, zc54, length_zsum]; omega) | (simp [cat, msgC, jbC, sgdC, rcpC, hm.h0, hm.h1, hm.go, hm.sec, hm.j, hm.rh, hm.rb, zc78, zc82, zc54, length_zsum]; omega)))) rfl ?_
  rintro _ w ⟨rfl, k12, c12, T⟩
  have S := (S.call [0, 1] T rfl).pk [0, 1, 4] rfl
  have hS := S.pk [2] rfl
  refine ⟨hS, ?_⟩
  refine q_nil (p_nil (x_then (s_seq ?_)))
  refine s_cutK (ks := [some b3, k12, some b1]) (ps := [Ex _ _, Rw _ _ _ _ _, Ex _ _]) [(3, .pointer _)] ⟨rfl, trivial⟩ S (fun keep ks ps f' w' => ∃ u Kp3 Cp3 q, f' = upds u (keep) ∧ (q = tput m b s) ∧ St w0 w' [] [some b3, Kp3, some b1] [penE Kp3 Cp3 q, Rw 5 1 ((List.length q)) Cp3 (bv q), (ps.getD 2 fun _ => True)]) ?_ ?_
  · refine s_seq (s_plain ?_)
    refine p_val (e_field rfl Try.underlying84 rfl sz3 (by decide)) rfl ?_
    refine p_val (e_loadF1 (i := 0) (off := 0) rfl ag3 S (j := 2) rfl rfl rfl (by first | with_reducible assumption | (rw [bv_length]; with_reducible assumption) | (rw [List.size_toArray, bv_length]; with_reducible assumption) | (simp [cat, msgC, jbC, sgdC, rcpC, hm.h0, hm.h1, hm.go, hm.sec, hm.j, hm.rh, hm.rb, zc78, zc82, zc54, length_zsum]; done) | (simp [cat, msgC, jbC, sgdC, rcpC, hm.h0, hm.h1, hm.go, hm.sec, hm.j, hm.rh, hm.rb, zc78, zc82, zc54, length_zsum]; omega) | rfl)) rfl ?_
    refine p_nil (x_then (s_block (s_seq (s_plain ?_))))
    refine p_val (e_eql rfl rfl) rfl ?_
    refine p_val (e_assign (v := .bool _) rfl) rfl ?_
    refine p_nil (x_then ?_)
    refine s_cond rfl (fun hc19 => ?_) (fun hc19 => ?_)
    · refine s_drawK (ks := [some b1]) (ps := [Ex _ _]) (S.pk [2] rfl) [(true, 0), (true, 1), (true, 2), (true, 4), (true, 5), (true, 6), (true, 8), (true, 9), (true, 10), (true, 12), (true, 13), (true, 14), (true, 15), (true, 17), (true, 18), (true, 19), (true, 20), (true, 22), (true, 23), (true, 24), (true, 26), (true, 27), (true, 28), (false, 3), (false, 7), (false, 11), (false, 16), (false, 21), (false, 25), (false, 29)] [] [] mixed (by kernel_rfl) (by repeat (first | exact Calm.post _ _ _ | refine Calm.then ?_ _ | refine Calm.inB ?_ _)) (fun hS => ?_)
      have S := S.drew
      refine q_val (fun w hS => e_field rfl Try.underlying84 rfl sz78 (by decide)) rfl hS ?_
      refine q_val (fun w hS => e_field rfl Try.underlying78 rfl sz3 (by decide)) rfl hS ?_
      refine q_val (fun w hS => e_loadF1 (i := 3) (off := 3) rfl ag3 hS (j := 0) rfl rfl rfl (by first | with_reducible assumption | (rw [bv_length]; with_reducible assumption) | (rw [List.size_toArray, bv_length]; with_reducible assumption) | (simp [cat, msgC, jbC, sgdC, rcpC, hm.h0, hm.h1, hm.go, hm.sec, hm.j, hm.rh, hm.rb, zc78, zc82, zc54, length_zsum]; done) | (simp [cat, msgC, jbC, sgdC, rcpC, hm.h0, hm.h1, hm.go, hm.sec, hm.j, hm.rh, hm.rb, zc78, zc82, zc54, length_zsum]; omega) | rfl)) rfl hS ?_
      refine q_val (fun w hS => e_field rfl Try.underlying84 rfl sz78 (by decide)) rfl hS ?_
      refine q_val (fun w hS => e_field rfl Try.underlying78 rfl sz2 (by decide)) rfl hS ?_
      refine q_val (fun w hS => e_loadF1 (i := 4) (off := 4) rfl ag2 hS (j := 0) rfl rfl rfl (by first | with_reducible assumption | (rw [bv_length]; with_reducible assumption) | (rw [List.size_toArray, bv_length]; with_reducible assumption) | (simp [cat, msgC, jbC, sgdC, rcpC, hm.h0, hm.h1, hm.go, hm.sec, hm.j, hm.rh, hm.rb, zc78, zc82, zc54, length_zsum]; done) | (simp [cat, msgC, jbC, sgdC, rcpC, hm.h0, hm.h1, hm.go, hm.sec, hm.j, hm.rh, hm.rb, zc78, zc82, zc54, length_zsum]; omega) | rfl)) rfl hS ?_
      refine q_val (fun w hS => e_field rfl Try.underlying84 rfl sz78 (by decide)) rfl hS ?_
      refine q_val (fun w hS => e_field rfl Try.underlying78 rfl sz2 (by decide)) rfl hS ?_
      refine q_val (fun w hS => e_loadF1 (i := 5) (off := 5) rfl ag2 hS (j := 0) rfl rfl rfl (by first | with_reducible assumption | (rw [bv_length]; with_reducible assumption) | (rw [List.size_toArray, bv_length]; with_reducible assumption) | (simp [cat, msgC, jbC, sgdC, rcpC, hm.h0, hm.h1, hm.go, hm.sec, hm.j, hm.rh, hm.rb, zc78, zc82, zc54, length_zsum]; done) | (simp [cat, msgC, jbC, sgdC, rcpC, hm.h0, hm.h1, hm.go, hm.sec, hm.j, hm.rh, hm.rb, zc78, zc82, zc54, length_zsum]; omega) | rfl)) rfl hS ?_
      refine q_val (fun w hS => e_field rfl Try.underlying84 rfl sz78 (by decide)) rfl hS ?_
      refine q_val (fun w hS => e_field rfl Try.underlying78 rfl sz76 (by decide)) rfl hS ?_
      refine q_val (fun w hS => e_ix_arr rfl rfl Try.underlying76 sz44 (by omega)) rfl hS ?_
      refine q_val (fun w hS => e_loadFA (i := 6) (off := 6) rfl ag44 sz44 (by decide) hS (j := 0) rfl rfl rfl (by first | with_reducible assumption | (rw [bv_length]; with_reducible assumption) | (rw [List.size_toArray, bv_length]; with_reducible assumption) | (simp [cat, msgC, jbC, sgdC, rcpC, hm.h0, hm.h1, hm.go, hm.sec, hm.j, hm.rh, hm.rb, zc78, zc82, zc54, length_zsum]; done) | (simp [cat, msgC, jbC, sgdC, rcpC, hm.h0, hm.h1, hm.go, hm.sec, hm.j, hm.rh, hm.rb, zc78, zc82, zc54, length_zsum]; omega) | rfl) (by first | with_reducible assumption | (rw [bv_length]; with_reducible assumption) | (rw [List.size_toArray, bv_length]; with_reducible assumption) | (simp [cat, msgC, jbC, sgdC, rcpC, hm.h0, hm.h1, hm.go, hm.sec, hm.j, hm.rh, hm.rb, zc78, zc82, zc54, length_zsum]; done) | (simp [cat, msgC, jbC, sgdC, rcpC, hm.h0, hm.h1, hm.go, hm.sec, hm.j, hm.rh, hm.rb, zc78, zc82, zc54, length_zsum]; omega) | rfl)) rfl hS ?_
      refine q_val (fun w hS => e_field rfl Try.underlying84 rfl sz78 (by decide)) rfl hS ?_
      refine q_val (fun w hS => e_field rfl Try.underlying78 rfl sz76 (by decide)) rfl hS ?_
      refine q_val (fun w hS => e_ix_arr rfl rfl Try.underlying76 sz44 (by omega)) rfl hS ?_
      refine q_val (fun w hS => e_loadFA (i := 7) (off := 38) rfl ag44 sz44 (by decide) hS (j := 0) rfl rfl rfl (by first | with_reducible assumption | (rw [bv_length]; with_reducible assumption) | (rw [List.size_toArray, bv_length]; with_reducible assumption) | (simp [cat, msgC, jbC, sgdC, rcpC, hm.h0, hm.h1, hm.go, hm.sec, hm.j, hm.rh, hm.rb, zc78, zc82, zc54, length_zsum]; done) | (simp [cat, msgC, jbC, sgdC, rcpC, hm.h0, hm.h1, hm.go, hm.sec, hm.j, hm.rh, hm.rb, zc78, zc82, zc54, length_zsum]; omega) | rfl) (by first | with_reducible assumption | (rw [bv_length]; with_reducible assumption) | (rw [List.size_toArray, bv_length]; with_reducible assumption) | (simp [cat, msgC, jbC, sgdC, rcpC, hm.h0, hm.h1, hm.go, hm.sec, hm.j, hm.rh, hm.rb, zc78, zc82, zc54, length_zsum]; done) | (simp [cat, msgC, jbC, sgdC, rcpC, hm.h0, hm.h1, hm.go, hm.sec, hm.j, hm.rh, hm.rb, zc78, zc82, zc54, length_zsum]; omega) | rfl)) rfl hS ?_
      refine q_val (fun w hS => e_field rfl Try.underlying84 rfl sz80 (by decide)) rfl hS ?_
      refine q_val (fun w hS => e_field rfl Try.underlying80 rfl sz3 (by decide)) rfl hS ?_
      refine q_val (fun w hS => e_loadF1 (i := 8) (off := 70) rfl ag3 hS (j := 0) rfl rfl rfl (by first | with_reducible assumption | (rw [bv_length]; with_reducible assumption) | (rw [List.size_toArray, bv_length]; with_reducible assumption) | (simp [cat, msgC, jbC, sgdC, rcpC, hm.h0, hm.h1, hm.go, hm.sec, hm.j, hm.rh, hm.rb, zc78, zc82, zc54, length_zsum]; done) | (simp [cat, msgC, jbC, sgdC, rcpC, hm.h0, hm.h1, hm.go, hm.sec, hm.j, hm.rh, hm.rb, zc78, zc82, zc54, length_zsum]; omega) | rfl)) rfl hS ?_
      refine q_val (fun w hS => e_field rfl Try.underlying84 rfl sz80 (by decide)) rfl hS ?_
      refine q_val (fun w hS => e_field rfl Try.underlying80 rfl sz44 (by decide)) rfl hS ?_
      refine q_val (fun w hS => e_loadFA (i := 9) (off := 71) rfl ag44 sz44 (by decide) hS (j := 0) rfl rfl rfl (by first | with_reducible assumption | (rw [bv_length]; with_reducible assumption) | (rw [List.size_toArray, bv_length]; with_reducible assumption) | (simp [cat, msgC, jbC, sgdC, rcpC, hm.h0, hm.h1, hm.go, hm.sec, hm.j, hm.rh, hm.rb, zc78, zc82, zc54, length_zsum]; done) | (simp [cat, msgC, jbC, sgdC, rcpC, hm.h0, hm.h1, hm.go, hm.sec, hm.j, hm.rh, hm.rb, zc78, zc82, zc54, length_zsum]; omega) | rfl) (by first | with_reducible assumption | (rw [bv_length]; with_reducible assumption) | (rw [List.size_toArray, bv_length]; with_reducible assumption) | (simp [cat, msgC, jbC, sgdC, rcpC, hm.h0, hm.h1, hm.go, hm.sec, hm.j, hm.rh, hm.rb, zc78, zc82, zc54, length_zsum]; done) | (simp [cat, msgC, jbC, sgdC, rcpC, hm.h0, hm.h1, hm.go, hm.sec, hm.j, hm.rh, hm.rb, zc78, zc82, zc54, length_zsum]; omega) | rfl)) rfl hS ?_
      refine q_does (d_call Try.func56 nm56 rfl rfl (pen_num _ _ _ _ _ _ (S.hr [0, 1] rfl) (by first | omega | (simp only [List.length_append, List.length_cons, List.length_nil, bv_length, msgC, jbC, sgdC, rcpC, hm.h0, hm.h1, hm.go, hm.sec, hm.j, hm.rh, hm.rb, zc78, zc82, zc54, length_zsum]; omega) | (simp [cat, msgC, jbC, sgdC, rcpC, hm.h0, hm.h1, hm.go, hm.sec, hm.j, hm.rh, hm.rb, zc78, zc82, zc54, length_zsum]; omega)))) rfl ?_
      rintro _ w ⟨rfl, k24, c24, T⟩
      have S := (S.call [0, 1] T rfl).pk [0, 1, 4] rfl
      have hS := S.pk [2] rfl
      refine ⟨hS, ?_⟩
      refine q_does (d_call Try.func56 nm56 rfl rfl (pen_num _ _ _ _ _ _ (S.hr [0, 1] rfl) (by first | omega | (simp only [List.length_append, List.length_cons, List.length_nil, bv_length, msgC, jbC, sgdC, rcpC, hm.h0, hm.h1, hm.go, hm.sec, hm.j, hm.rh, hm.rb, zc78, zc82, zc54, length_zsum]; omega) | (simp [cat, msgC, jbC, sgdC, rcpC, hm.h0, hm.h1, hm.go, hm.sec, hm.j, hm.rh, hm.rb, zc78, zc82, zc54, length_zsum]; omega)))) rfl ?_
      rintro _ w ⟨rfl, k28, c28, T⟩
      have S := (S.call [0, 1] T rfl).pk [0, 1, 4] rfl
      have hS := S.pk [2] rfl
      refine ⟨hS, ?_⟩
      refine q_does (d_call Try.func56 nm56 rfl rfl (pen_num _ _ _ _ _ _ (S.hr [0, 1] rfl) (by first | omega | (simp only [List.length_append, List.length_cons, List.length_nil, bv_length, msgC, jbC, sgdC, rcpC, hm.h0, hm.h1, hm.go, hm.sec, hm.j, hm.rh, hm.rb, zc78, zc82, zc54, length_zsum]; omega) | (simp [cat, msgC, jbC, sgdC, rcpC, hm.h0, hm.h1, hm.go, hm.sec, hm.j, hm.rh, hm.rb, zc78, zc82, zc54, length_zsum]; omega)))) rfl ?_
      rintro _ w ⟨rfl, k32, c32, T⟩
      have S := (S.call [0, 1] T rfl).pk [0, 1, 4] rfl
      have hS := S.pk [2] rfl
      refine ⟨hS, ?_⟩
      refine q_does (d_call Try.func57 nm57 rfl rfl (pen_sum _ _ _ _ _ _ (S.hr [0, 1] rfl) (by first | with_reducible assumption | (rw [bv_length]; with_reducible assumption) | (rw [List.size_toArray, bv_length]; with_reducible assumption) | (simp [cat, msgC, jbC, sgdC, rcpC, hm.h0, hm.h1, hm.go, hm.sec, hm.j, hm.rh, hm.rb, zc78, zc82, zc54, length_zsum]; done) | (simp [cat, msgC, jbC, sgdC, rcpC, hm.h0, hm.h1, hm.go, hm.sec, hm.j, hm.rh, hm.rb, zc78, zc82, zc54, length_zsum]; omega) | rfl) (by first | omega | (simp only [List.length_append, List.length_cons, List.length_nil, bv_length, msgC, jbC, sgdC, rcpC, hm.h0, hm.h1, hm.go, hm.sec, hm.j, hm.rh, hm.rb, zc78, zc82, zc54, length_zsum]; omega) | (simp [cat, msgC, jbC, sgdC, rcpC, hm.h0, hm.h1, hm.go, hm.sec, hm.j, hm.rh, hm.rb, zc78, zc82, zc54, length_zsum]; omega)))) rfl ?_
      rintro _ w ⟨rfl, k37, c37, T⟩
      have S := (S.call [0, 1] T rfl).pk [0, 1, 4] rfl
      have hS := S.pk [2] rfl
      refine ⟨hS, ?_⟩
      refine q_does (d_call Try.func57 nm57 rfl rfl (pen_sum _ _ _ _ _ _ (S.hr [0, 1] rfl) (by first | with_reducible assumption | (rw [bv_length]; with_reducible assumption) | (rw [List.size_toArray, bv_length]; with_reducible assumption) | (simp [cat, msgC, jbC, sgdC, rcpC, hm.h0, hm.h1, hm.go, hm.sec, hm.j, hm.rh, hm.rb, zc78, zc82, zc54, length_zsum]; done) | (simp [cat, msgC, jbC, sgdC, rcpC, hm.h0, hm.h1, hm.go, hm.sec, hm.j, hm.rh, hm.rb, zc78, zc82, zc54, length_zsum]; omega) | rfl) (by first | omega | (simp only [List.length_append, List.length_cons, List.length_nil, bv_length, msgC, jbC, sgdC, rcpC, hm.h0, hm.h1, hm.go, hm.sec, hm.j, hm.rh, hm.rb, zc78, zc82, zc54, length_zsum]; omega) | (simp [cat, msgC, jbC, sgdC, rcpC, hm.h0, hm.h1, hm.go, hm.sec, hm.j, hm.rh, hm.rb, zc78, zc82, zc54, length_zsum]; omega)))) rfl ?_
      rintro _ w ⟨rfl, k42, c42, T⟩
      have S := (S.call [0, 1] T rfl).pk [0, 1, 4] rfl
      have hS := S.pk [2] rfl
      refine ⟨hS, ?_⟩
      refine q_does (d_call Try.func56 nm56 rfl rfl (pen_num _ _ _ _ _ _ (S.hr [0, 1] rfl) (by first | omega | (simp only [List.length_append, List.length_cons, List.length_nil, bv_length, msgC, jbC, sgdC, rcpC, hm.h0, hm.h1, hm.go, hm.sec, hm.j, hm.rh, hm.rb, zc78, zc82, zc54, length_zsum]; omega) | (simp [cat, msgC, jbC, sgdC, rcpC, hm.h0, hm.h1, hm.go, hm.sec, hm.j, hm.rh, hm.rb, zc78, zc82, zc54, length_zsum]; omega)))) rfl ?_
      rintro _ w ⟨rfl, k46, c46, T⟩
      have S := (S.call [0, 1] T rfl).pk [0, 1, 4] rfl
      have hS := S.pk [2] rfl
      refine ⟨hS, ?_⟩
      refine q_does (d_call Try.func57 nm57 rfl rfl (pen_sum _ _ _ _ _ _ (S.hr [0, 1] rfl) (by first | with_reducible assumption | (rw [bv_length]; with_reducible assumption) | (rw [List.size_toArray, bv_length]; with_reducible assumption) | (simp [cat, msgC, jbC, sgdC, rcpC, hm.h0, hm.h1, hm.go, hm.sec, hm.j, hm.rh, hm.rb, zc78, zc82, zc54, length_zsum]; done) | (simp [cat, msgC, jbC, sgdC, rcpC, hm.h0, hm.h1, hm.go, hm.sec, hm.j, hm.rh, hm.rb, zc78, zc82, zc54, length_zsum]; omega) | rfl) (by first | omega | (simp only [List.length_append, List.length_cons, List.length_nil, bv_length, msgC, jbC, sgdC, rcpC, hm.h0, hm.h1, hm.go, hm.sec, hm.j, hm.rh, hm.rb, zc78, zc82, zc54, length_zsum]; omega) | (simp [cat, msgC, jbC, sgdC, rcpC, hm.h0, hm.h1, hm.go, hm.sec, hm.j, hm.rh, hm.rb, zc78, zc82, zc54, length_zsum]; omega)))) rfl ?_
      rintro _ w ⟨rfl, k50, c50, T⟩
      have S := (S.call [0, 1] T rfl).pk [0, 1, 4] rfl
      have hS := S.pk [2] rfl
      refine ⟨hS, ?_⟩
      refine q_nil (p_nil (x_in ?_))
      exact x_then ⟨_, rfl, _, _, _, _, upds_eq ⟨rfl, trivial⟩, by simp [tput, tbody, hc19, nums], S⟩
    · refine s_seq (s_plain ?_)
      refine p_val (e_eql rfl rfl) rfl ?_
      refine p_val (e_assign (v := .bool _) rfl) rfl ?_
      refine p_nil (x_then ?_)
      refine s_cond rfl (fun hc51 => ?_) (fun hc51 => ?_)
      · refine s_drawK (ks := [some b1]) (ps := [Ex _ _]) (S.pk [2] rfl) [(true, 0), (true, 1), (true, 3), (true, 4), (true, 6), (true, 7), (true, 8), (true, 10), (true, 11), (true, 12), (false, 2), (false, 5), (false, 9), (false, 13)] [] [] mixed (by kernel_rfl) (by repeat (first | exact Calm.post _ _ _ | refine Calm.then ?_ _ | refine Calm.inB ?_ _)) (fun hS => ?_)
        have S := S.drew
        refine q_val (fun w hS => e_field rfl Try.underlying84 rfl sz3 (by decide)) rfl hS ?_
        refine q_val (fun w hS => e_loadF1 (i := 10) (off := 103) rfl ag3 hS (j := 0) rfl rfl rfl (by first | with_reducible assumption | (rw [bv_length]; with_reducible assumption) | (rw [List.size_toArray, bv_length]; with_reducible assumption) | (simp [cat, msgC, jbC, sgdC, rcpC, hm.h0, hm.h1, hm.go, hm.sec, hm.j, hm.rh, hm.rb, zc78, zc82, zc54, length_zsum]; done) | (simp [cat, msgC, jbC, sgdC, rcpC, hm.h0, hm.h1, hm.go, hm.sec, hm.j, hm.rh, hm.rb, zc78, zc82, zc54, length_zsum]; omega) | rfl)) rfl hS ?_
        refine q_val (fun w hS => e_field rfl Try.underlying84 rfl sz44 (by decide)) rfl hS ?_
        refine q_val (fun w hS => e_loadFA (i := 11) (off := 104) rfl ag44 sz44 (by decide) hS (j := 0) rfl rfl rfl (by first | with_reducible assumption | (rw [bv_length]; with_reducible assumption) | (rw [List.size_toArray, bv_length]; with_reducible assumption) | (simp [cat, msgC, jbC, sgdC, rcpC, hm.h0, hm.h1, hm.go, hm.sec, hm.j, hm.rh, hm.rb, zc78, zc82, zc54, length_zsum]; done) | (simp [cat, msgC, jbC, sgdC, rcpC, hm.h0, hm.h1, hm.go, hm.sec, hm.j, hm.rh, hm.rb, zc78, zc82, zc54, length_zsum]; omega) | rfl) (by first | with_reducible assumption | (rw [bv_length]; with_reducible assumption) | (rw [List.size_toArray, bv_length]; with_reducible assumption) | (simp [cat, msgC, jbC, sgdC, rcpC, hm.h0, hm.h1, hm.go, hm.sec, hm.j, hm.rh, hm.rb, zc78, zc82, zc54, length_zsum]; done) | (simp [cat, msgC, jbC, sgdC, rcpC, hm.h0, hm.h1, hm.go, hm.sec, hm.j, hm.rh, hm.rb, zc78, zc82, zc54, length_zsum]; omega) | rfl)) rfl hS ?_
        refine q_val (fun w hS => e_field rfl Try.underlying84 rfl sz80 (by decide)) rfl hS ?_
        refine q_val (fun w hS => e_field rfl Try.underlying80 rfl sz3 (by decide)) rfl hS ?_
        refine q_val (fun w hS => e_loadF1 (i := 8) (off := 70) rfl ag3 hS (j := 0) rfl rfl rfl (by first | with_reducible assumption | (rw [bv_length]; with_reducible assumption) | (rw [List.size_toArray, bv_length]; with_reducible assumption) | (simp [cat, msgC, jbC, sgdC, rcpC, hm.h0, hm.h1, hm.go, hm.sec, hm.j, hm.rh, hm.rb, zc78, zc82, zc54, length_zsum]; done) | (simp [cat, msgC, jbC, sgdC, rcpC, hm.h0, hm.h1, hm.go, hm.sec, hm.j, hm.rh, hm.rb, zc78, zc82, zc54, length_zsum]; omega) | rfl)) rfl hS ?_
        refine q_val (fun w hS => e_field rfl Try.underlying84 rfl sz80 (by decide)) rfl hS ?_
        refine q_val (fun w hS => e_field rfl Try.underlying80 rfl sz44 (by decide)) rfl hS ?_
        refine q_val (fun w hS => e_loadFA (i := 9) (off := 71) rfl ag44 sz44 (by decide) hS (j := 0) rfl rfl rfl (by first | with_reducible assumption | (rw [bv_length]; with_reducible assumption) | (rw [List.size_toArray, bv_length]; with_reducible assumption) | (simp [cat, msgC, jbC, sgdC, rcpC, hm.h0, hm.h1, hm.go, hm.sec, hm.j, hm.rh, hm.rb, zc78, zc82, zc54, length_zsum]; done) | (simp [cat, msgC, jbC, sgdC, rcpC, hm.h0, hm.h1, hm.go, hm.sec, hm.j, hm.rh, hm.rb, zc78, zc82, zc54, length_zsum]; omega) | rfl) (by first | with_reducible assumption | (rw [bv_length]; with_reducible assumption) | (rw [List.size_toArray, bv_length]; with_reducible assumption) | (simp [cat, msgC, jbC, sgdC, rcpC, hm.h0, hm.h1, hm.go, hm.sec, hm.j, hm.rh, hm.rb, zc78, zc82, zc54, length_zsum]; done) | (simp [cat, msgC, jbC, sgdC, rcpC, hm.h0, hm.h1, hm.go, hm.sec, hm.j, hm.rh, hm.rb, zc78, zc82, zc54, length_zsum]; omega) | rfl)) rfl hS ?_
        refine q_does (d_call Try.func56 nm56 rfl rfl (pen_num _ _ _ _ _ _ (S.hr [0, 1] rfl) (by first | omega | (simp only [List.length_append, List.length_cons, List.length_nil, bv_length, msgC, jbC, sgdC, rcpC, hm.h0, hm.h1, hm.go, hm.sec, hm.j, hm.rh, hm.rb, zc78, zc82, zc54, length_zsum]; omega) | (simp [cat, msgC, jbC, sgdC, rcpC, hm.h0, hm.h1, hm.go, hm.sec, hm.j, hm.rh, hm.rb, zc78, zc82, zc54, length_zsum]; omega)))) rfl ?_
        rintro _ w ⟨rfl, k55, c55, T⟩
        have S := (S.call [0, 1] T rfl).pk [0, 1, 4] rfl
        have hS := S.pk [2] rfl
        refine ⟨hS, ?_⟩
        refine q_does (d_call Try.func57 nm57 rfl rfl (pen_sum _ _ _ _ _ _ (S.hr [0, 1] rfl) (by first | with_reducible assumption | (rw [bv_length]; with_reducible assumption) | (rw [List.size_toArray, bv_length]; with_reducible assumption) | (simp [cat, msgC, jbC, sgdC, rcpC, hm.h0, hm.h1, hm.go, hm.sec, hm.j, hm.rh, hm.rb, zc78, zc82, zc54, length_zsum]; done) | (simp [cat, msgC, jbC, sgdC, rcpC, hm.h0, hm.h1, hm.go, hm.sec, hm.j, hm.rh, hm.rb, zc78, zc82, zc54, length_zsum]; omega) | rfl) (by first | omega | (simp only [List.length_append, List.length_cons, List.length_nil, bv_length, msgC, jbC, sgdC, rcpC, hm.h0, hm.h1, hm.go, hm.sec, hm.j, hm.rh, hm.rb, zc78, zc82, zc54, length_zsum]; omega) | (simp [cat, msgC, jbC, sgdC, rcpC, hm.h0, hm.h1, hm.go, hm.sec, hm.j, hm.rh, hm.rb, zc78, zc82, zc54, length_zsum]; omega)))) rfl ?_
        rintro _ w ⟨rfl, k58, c58, T⟩
        have S := (S.call [0, 1] T rfl).pk [0, 1, 4] rfl
        have hS := S.pk [2] rfl
        refine ⟨hS, ?_⟩
        refine q_does (d_call Try.func56 nm56 rfl rfl (pen_num _ _ _ _ _ _ (S.hr [0, 1] rfl) (by first | omega | (simp only [List.length_append, List.length_cons, List.length_nil, bv_length, msgC, jbC, sgdC, rcpC, hm.h0, hm.h1, hm.go, hm.sec, hm.j, hm.rh, hm.rb, zc78, zc82, zc54, length_zsum]; omega) | (simp [cat, msgC, jbC, sgdC, rcpC, hm.h0, hm.h1, hm.go, hm.sec, hm.j, hm.rh, hm.rb, zc78, zc82, zc54, length_zsum]; omega)))) rfl ?_
        rintro _ w ⟨rfl, k62, c62, T⟩
        have S := (S.call [0, 1] T rfl).pk [0, 1, 4] rfl
        have hS := S.pk [2] rfl
        refine ⟨hS, ?_⟩
        refine q_does (d_call Try.func57 nm57 rfl rfl (pen_sum _ _ _ _ _ _ (S.hr [0, 1] rfl) (by first | with_reducible assumption | (rw [bv_length]; with_reducible assumption) | (rw [List.size_toArray, bv_length]; with_reducible assumption) | (simp [cat, msgC, jbC, sgdC, rcpC, hm.h0, hm.h1, hm.go, hm.sec, hm.j, hm.rh, hm.rb, zc78, zc82, zc54, length_zsum]; done) | (simp [cat, msgC, jbC, sgdC, rcpC, hm.h0, hm.h1, hm.go, hm.sec, hm.j, hm.rh, hm.rb, zc78, zc82, zc54, length_zsum]; omega) | rfl) (by first | omega | (simp only [List.length_append, List.length_cons, List.length_nil, bv_length, msgC, jbC, sgdC, rcpC, hm.h0, hm.h1, hm.go, hm.sec, hm.j, hm.rh, hm.rb, zc78, zc82, zc54, length_zsum]; omega) | (simp [cat, msgC, jbC, sgdC, rcpC, hm.h0, hm.h1, hm.go, hm.sec, hm.j, hm.rh, hm.rb, zc78, zc82, zc54, length_zsum]; omega)))) rfl ?_
        rintro _ w ⟨rfl, k66, c66, T⟩
        have S := (S.call [0, 1] T rfl).pk [0, 1, 4] rfl
        have hS := S.pk [2] rfl
        refine ⟨hS, ?_⟩
        refine q_nil (p_nil (x_in ?_))
        exact x_then ⟨_, rfl, _, _, _, _, upds_eq ⟨rfl, trivial⟩, by simp [tput, tbody, hc51, nums], S⟩
      · refine s_seq (s_plain ?_)
        refine p_val (e_eql rfl rfl) rfl ?_
        refine p_val (e_assign (v := .bool _) rfl) rfl ?_
        refine p_nil (x_then ?_)
        refine s_cond rfl (fun hc67 => ?_) (fun hc67 => ?_)
        · refine s_drawK (ks := [some b1]) (ps := [Ex _ _]) (S.pk [2] rfl) [(true, 0), (true, 1), (true, 3), (true, 4), (false, 2), (false, 5)] [] [] mixed (by kernel_rfl) (by repeat (first | exact Calm.post _ _ _ | refine Calm.then ?_ _ | refine Calm.inB ?_ _)) (fun hS => ?_)
          have S := S.drew
          refine q_val (fun w hS => e_field rfl Try.underlying84 rfl sz3 (by decide)) rfl hS ?_
          refine q_val (fun w hS => e_loadF1 (i := 10) (off := 103) rfl ag3 hS (j := 0) rfl rfl rfl (by first | with_reducible assumption | (rw [bv_length]; with_reducible assumption) | (rw [List.size_toArray, bv_length]; with_reducible assumption) | (simp [cat, msgC, jbC, sgdC, rcpC, hm.h0, hm.h1, hm.go, hm.sec, hm.j, hm.rh, hm.rb, zc78, zc82, zc54, length_zsum]; done) | (simp [cat, msgC, jbC, sgdC, rcpC, hm.h0, hm.h1, hm.go, hm.sec, hm.j, hm.rh, hm.rb, zc78, zc82, zc54, length_zsum]; omega) | rfl)) rfl hS ?_
          refine q_val (fun w hS => e_field rfl Try.underlying84 rfl sz44 (by decide)) rfl hS ?_
          refine q_val (fun w hS => e_loadFA (i := 11) (off := 104) rfl ag44 sz44 (by decide) hS (j := 0) rfl rfl rfl (by first | with_reducible assumption | (rw [bv_length]; with_reducible assumption) | (rw [List.size_toArray, bv_length]; with_reducible assumption) | (simp [cat, msgC, jbC, sgdC, rcpC, hm.h0, hm.h1, hm.go, hm.sec, hm.j, hm.rh, hm.rb, zc78, zc82, zc54, length_zsum]; done) | (simp [cat, msgC, jbC, sgdC, rcpC, hm.h0, hm.h1, hm.go, hm.sec, hm.j, hm.rh, hm.rb, zc78, zc82, zc54, length_zsum]; omega) | rfl) (by first | with_reducible assumption | (rw [bv_length]; with_reducible assumption) | (rw [List.size_toArray, bv_length]; with_reducible assumption) | (simp [cat, msgC, jbC, sgdC, rcpC, hm.h0, hm.h1, hm.go, hm.sec, hm.j, hm.rh, hm.rb, zc78, zc82, zc54, length_zsum]; done) | (simp [cat, msgC, jbC, sgdC, rcpC, hm.h0, hm.h1, hm.go, hm.sec, hm.j, hm.rh, hm.rb, zc78, zc82, zc54, length_zsum]; omega) | rfl)) rfl hS ?_
          refine q_does (d_call Try.func56 nm56 rfl rfl (pen_num _ _ _ _ _ _ (S.hr [0, 1] rfl) (by first | omega | (simp only [List.length_append, List.length_cons, List.length_nil, bv_length, msgC, jbC, sgdC, rcpC, hm.h0, hm.h1, hm.go, hm.sec, hm.j, hm.rh, hm.rb, zc78, zc82, zc54, length_zsum]; omega) | (simp [cat, msgC, jbC, sgdC, rcpC, hm.h0, hm.h1, hm.go, hm.sec, hm.j, hm.rh, hm.rb, zc78, zc82, zc54, length_zsum]; omega)))) rfl ?_
          rintro _ w ⟨rfl, k71, c71, T⟩
          have S := (S.call [0, 1] T rfl).pk [0, 1, 4] rfl
          have hS := S.pk [2] rfl
          refine ⟨hS, ?_⟩
          refine q_does (d_call Try.func57 nm57 rfl rfl (pen_sum _ _ _ _ _ _ (S.hr [0, 1] rfl) (by first | with_reducible assumption | (rw [bv_length]; with_reducible assumption) | (rw [List.size_toArray, bv_length]; with_reducible assumption) | (simp [cat, msgC, jbC, sgdC, rcpC, hm.h0, hm.h1, hm.go, hm.sec, hm.j, hm.rh, hm.rb, zc78, zc82, zc54, length_zsum]; done) | (simp [cat, msgC, jbC, sgdC, rcpC, hm.h0, hm.h1, hm.go, hm.sec, hm.j, hm.rh, hm.rb, zc78, zc82, zc54, length_zsum]; omega) | rfl) (by first | omega | (simp only [List.length_append, List.length_cons, List.length_nil, bv_length, msgC, jbC, sgdC, rcpC, hm.h0, hm.h1, hm.go, hm.sec, hm.j, hm.rh, hm.rb, zc78, zc82, zc54, length_zsum]; omega) | (simp [cat, msgC, jbC, sgdC, rcpC, hm.h0, hm.h1, hm.go, hm.sec, hm.j, hm.rh, hm.rb, zc78, zc82, zc54, length_zsum]; omega)))) rfl ?_
          rintro _ w ⟨rfl, k74, c74, T⟩
          have S := (S.call [0, 1] T rfl).pk [0, 1, 4] rfl
          have hS := S.pk [2] rfl
          refine ⟨hS, ?_⟩
          refine q_nil (p_nil (x_in ?_))
          exact x_then ⟨_, rfl, _, _, _, _, upds_eq ⟨rfl, trivial⟩, by simp [tput, tbody, hc67, nums], S⟩
        · refine s_seq (s_plain ?_)
          refine p_val (e_eql rfl rfl) rfl ?_
          refine p_val (e_assign (v := .bool _) rfl) rfl ?_
          refine p_nil (x_then ?_)
          refine s_cond rfl (fun hc75 => ?_) (fun hc75 => ?_)
          · refine s_plain ?_
            refine p_val (e_field rfl Try.underlying84 rfl sz82 (by decide)) rfl ?_
            refine p_val (e_loadFS (i := 12) (n := 4) (off := 136) rfl ag82 sz82 (by decide) S (j := 2) rfl rfl (by first | with_reducible assumption | (rw [bv_length]; with_reducible assumption) | (rw [List.size_toArray, bv_length]; with_reducible assumption) | (simp [cat, msgC, jbC, sgdC, rcpC, hm.h0, hm.h1, hm.go, hm.sec, hm.j, hm.rh, hm.rb, zc78, zc82, zc54, length_zsum]; done) | (simp [cat, msgC, jbC, sgdC, rcpC, hm.h0, hm.h1, hm.go, hm.sec, hm.j, hm.rh, hm.rb, zc78, zc82, zc54, length_zsum]; omega) | rfl) (by first | with_reducible assumption | (rw [bv_length]; with_reducible assumption) | (rw [List.size_toArray, bv_length]; with_reducible assumption) | (simp [cat, msgC, jbC, sgdC, rcpC, hm.h0, hm.h1, hm.go, hm.sec, hm.j, hm.rh, hm.rb, zc78, zc82, zc54, length_zsum]; done) | (simp [cat, msgC, jbC, sgdC, rcpC, hm.h0, hm.h1, hm.go, hm.sec, hm.j, hm.rh, hm.rb, zc78, zc82, zc54, length_zsum]; omega) | rfl)) rfl ?_
            refine p_does (d_call Try.func67 nm67 rfl rfl (jb_put _ m.j _ _ b hj (S.rdOld RB rfl) (by first | omega | (simp only [List.length_append, List.length_cons, List.length_nil, bv_length, msgC, jbC, sgdC, rcpC, hm.h0, hm.h1, hm.go, hm.sec, hm.j, hm.rh, hm.rb, zc78, zc82, zc54, length_zsum]; omega) | (simp [cat, msgC, jbC, sgdC, rcpC, hm.h0, hm.h1, hm.go, hm.sec, hm.j, hm.rh, hm.rb, zc78, zc82, zc54, length_zsum]; omega)))) rfl ?_
            rintro _ w ⟨k79, c79, rfl, T⟩
            have S := S.merge T rfl
            refine p_does (d_call Try.func25 nm25 rfl rfl (pen_text _ _ _ _ _ _ _ _ _ (S.hr [1, 2] rfl) (S.rdRw 0 rfl rfl) (S.offRow 0 [1, 2] rfl rfl) (by first | omega | (simp only [List.length_append, List.length_cons, List.length_nil, bv_length, msgC, jbC, sgdC, rcpC, hm.h0, hm.h1, hm.go, hm.sec, hm.j, hm.rh, hm.rb, zc78, zc82, zc54, length_zsum]; omega) | (simp [cat, msgC, jbC, sgdC, rcpC, hm.h0, hm.h1, hm.go, hm.sec, hm.j, hm.rh, hm.rb, zc78, zc82, zc54, length_zsum]; omega)))) rfl ?_
            rintro _ w ⟨rfl, k80, c80, T⟩
            have S := (S.call [1, 2] T rfl).pk [2, 0, 1, 5] rfl
            refine p_nil (x_in ?_)
            exact x_then ⟨_, rfl, _, _, _, _, upds_eq ⟨rfl, trivial⟩, by simp [tput, tbody, hc75, nums], S.pk [1, 2, 3] rfl⟩
          · refine s_plain ?_
            refine p_val (e_field rfl Try.underlying84 rfl sz54 (by decide)) rfl ?_
            refine p_val (e_loadFS (i := 16) (n := 6) (off := 171) rfl ag54 sz54 (by decide) S (j := 2) rfl rfl (by first | with_reducible assumption | (rw [bv_length]; with_reducible assumption) | (rw [List.size_toArray, bv_length]; with_reducible assumption) | (simp [cat, msgC, jbC, sgdC, rcpC, hm.h0, hm.h1, hm.go, hm.sec, hm.j, hm.rh, hm.rb, zc78, zc82, zc54, length_zsum]; done) | (simp [cat, msgC, jbC, sgdC, rcpC, hm.h0, hm.h1, hm.go, hm.sec, hm.j, hm.rh, hm.rb, zc78, zc82, zc54, length_zsum]; omega) | rfl) (by first | with_reducible assumption | (rw [bv_length]; with_reducible assumption) | (rw [List.size_toArray, bv_length]; with_reducible assumption) | (simp [cat, msgC, jbC, sgdC, rcpC, hm.h0, hm.h1, hm.go, hm.sec, hm.j, hm.rh, hm.rb, zc78, zc82, zc54, length_zsum]; done) | (simp [cat, msgC, jbC, sgdC, rcpC, hm.h0, hm.h1, hm.go, hm.sec, hm.j, hm.rh, hm.rb, zc78, zc82, zc54, length_zsum]; omega) | rfl)) rfl ?_
            refine p_does (d_call Try.func28 nm28 rfl rfl (sg_put _ m.r _ _ s hr (S.rdOld RS rfl) (by first | omega | (simp only [List.length_append, List.length_cons, List.length_nil, bv_length, msgC, jbC, sgdC, rcpC, hm.h0, hm.h1, hm.go, hm.sec, hm.j, hm.rh, hm.rb, zc78, zc82, zc54, length_zsum]; omega) | (simp [cat, msgC, jbC, sgdC, rcpC, hm.h0, hm.h1, hm.go, hm.sec, hm.j, hm.rh, hm.rb, zc78, zc82, zc54, length_zsum]; omega)))) rfl ?_
            rintro _ w ⟨k17, c17, rfl, T⟩
            have S := S.merge T rfl
            refine p_does (d_call Try.func25 nm25 rfl rfl (pen_text _ _ _ _ _ _ _ _ _ (S.hr [1, 2] rfl) (S.rdRw 0 rfl rfl) (S.offRow 0 [1, 2] rfl rfl) (by first | omega | (simp only [List.length_append, List.length_cons, List.length_nil, bv_length, msgC, jbC, sgdC, rcpC, hm.h0, hm.h1, hm.go, hm.sec, hm.j, hm.rh, hm.rb, zc78, zc82, zc54, length_zsum]; omega) | (simp [cat, msgC, jbC, sgdC, rcpC, hm.h0, hm.h1, hm.go, hm.sec, hm.j, hm.rh, hm.rb, zc78, zc82, zc54, length_zsum]; omega)))) rfl ?_
            rintro _ w ⟨rfl, k18, c18, T⟩
            have S := (S.call [1, 2] T rfl).pk [2, 0, 1, 5] rfl
            refine p_nil (x_in ?_)
            exact x_then ⟨_, rfl, _, _, _, _, upds_eq ⟨rfl, trivial⟩, by simp [tput, tbody, hc19, hc51, hc67, hc75, nums], S.pk [1, 2, 3] rfl⟩
  · rintro f w ⟨u, Kp3, Cp3, q, rfl, hq, S⟩
    have hql : q.length ≤ 300 + b.length + s.length := by rw [hq]; exact tput_len hm
    refine x_then (s_seq (s_plain ?_))
    refine p_does (d_call Try.func26 nm26 rfl rfl (pen_bytes _ _ _ _ _ (S.exact_ 0 rfl rfl) (S.rdRw 1 rfl rfl) (by first | omega | (simp only [List.length_append, List.length_cons, List.length_nil, bv_length, msgC, jbC, sgdC, rcpC, hm.h0, hm.h1, hm.go, hm.sec, hm.j, hm.rh, hm.rb, zc78, zc82, zc54, length_zsum]; omega) | (simp [cat, msgC, jbC, sgdC, rcpC, hm.h0, hm.h1, hm.go, hm.sec, hm.j, hm.rh, hm.rb, zc78, zc82, zc54, length_zsum]; omega)))) rfl ?_
    rintro _ w ⟨k81, c81, rfl, T⟩
    have S := S.merge T rfl
    refine p_val (e_assign (v := .slice _ _ _) rfl) rfl ?_
    refine p_nil (x_then (s_ret ?_))
    exact post1 (v := .slice _ _ _) Try.results48 rfl (by subst hq; exact ⟨_, _, rfl, S.pk [0] rfl⟩)
end Go.Proofs.Ytcgcjklpilbndaa

/- Chapter 12's laws on texts and on bytes. It proves no statement by itself. -/
set_option linter.unusedSimpArgs false
set_option linter.unusedVariables false
set_option maxRecDepth 100000
set_option maxHeartbeats 2000000
namespace Go.Proofs.Ytcgcjklpilbndaa
open Go Go.RowKit E
attribute [local irreducible] wpList seqH treeH
def Rcp.byt (r : Rcp) : Prop := Bytes r.h ∧ Bytes r.b
theorem app_lt {a b : List Nat} (ha : ∀ x ∈ a, x < 256) (hb : ∀ x ∈ b, x < 256) : ∀ x ∈ a ++ b, x < 256 := fun x h => (List.mem_append.1 h).elim (ha x) (hb x)
theorem rtext_lt {r : Rcp} (h : r.byt) : ∀ x ∈ rtext r, x < 256 := by
  unfold rtext
  exact app_lt (app_lt (app_lt (app_lt (num_lt _) (num_lt _)) (num_lt _)) h.1) h.2
theorem sput_lt {r : Rcp} {s : List Nat} (h : r.byt) (hs : ∀ x ∈ s, x < 256) : ∀ x ∈ sput r s, x < 256 := by
  unfold sput
  exact app_lt (app_lt (app_lt (num_lt _) (rtext_lt h)) (num_lt _)) hs
theorem rcp_back {r : Rcp} (hr : r.ok) (h : r.right) : rRcp (rtext r) = (r, 0) := by
  obtain ⟨h1, h2, h3, h4, h5, h6⟩ := h
  have e : rtext r = num r.t ++ (num r.c ++ (num r.s ++ (r.h ++ (r.b ++ [])))) := by simp [rtext]
  unfold rRcp
  rw [e]
  simp only [rUpto_num (a := r.t) (m := 15) ⟨h1, by omega⟩ (by decide), rUpto_num (a := r.c) (m := 1048576) ⟨h3, h4⟩ (by decide), rUpto_num (a := r.s) (m := 1048576) ⟨h5, h6⟩ (by decide), rSum_sum hr.1, rSum_sum hr.2, rDone_nil, if_true]
theorem rcp_inv {l : List Nat} (hB : Bytes l) (h : (rRcp l).2 = 0) : (rRcp l).1.right ∧ rtext (rRcp l).1 = l ∧ (rRcp l).1.byt := by
  unfold rRcp at h ⊢
  rcases ha : rUpto 15 0 l with ⟨a1, a2, a3⟩
  simp only [ha] at h ⊢
  rcases hb : rUpto 1048576 a2 a3 with ⟨b1, b2, b3⟩
  simp only [hb] at h ⊢
  rcases hc : rUpto 1048576 b2 b3 with ⟨c1, c2, c3⟩
  simp only [hc] at h ⊢
  rcases hh : rSum c2 c3 with ⟨s1, s2, s3⟩
  simp only [hh] at h ⊢
  rcases hg : rSum s2 s3 with ⟨g1, g2, g3⟩
  simp only [hg] at h ⊢
  split at h
  · rename_i hd
    rw [if_pos hd]
    obtain ⟨e1, e2⟩ := rDone_inv hd
    subst e1 e2
    obtain ⟨rfl, f2, f3⟩ := rSum_inv hg
    obtain ⟨rfl, f5, f6⟩ := rSum_inv hh
    -- bytes of what is left
    have key : ∀ {m e x : Int} {l l' : List Nat}, Bytes l → rUpto m e l = (x, 0, l') → Bytes l' := fun hB h => fun y hy => hB y (by rw [(rUpto_inv hB h).2.1]; exact List.mem_append.2 (.inr hy))
    have ha0 : a2 = 0 := by
      by_cases hz : a2 = 0
      · exact hz
      · have : rUpto 1048576 a2 a3 = (0, a2, a3) := by rw [rUpto_of (e2 := a2) (rNum_no hz a3) (by rw [if_neg (by decide)]), if_neg hz]
        rw [this] at hb
        simp only [Prod.mk.injEq] at hb
        have hb2 := hb.2.1
        subst hb2
        have : rUpto 1048576 a2 b3 = (0, a2, b3) := by rw [rUpto_of (e2 := a2) (rNum_no hz b3) (by rw [if_neg (by decide)]), if_neg hz]
        rw [this] at hc
        simp only [Prod.mk.injEq] at hc
        exact absurd hc.2.1 hz
    subst ha0
    have hb0 : b2 = 0 := by
      by_cases hz : b2 = 0
      · exact hz
      · have : rUpto 1048576 b2 b3 = (0, b2, b3) := by rw [rUpto_of (e2 := b2) (rNum_no hz b3) (by rw [if_neg (by decide)]), if_neg hz]
        rw [this] at hc
        simp only [Prod.mk.injEq] at hc
        exact absurd hc.2.1 hz
    subst hb0
    obtain ⟨_, k2, k3, k4, _⟩ := rUpto_inv hB ha
    have B1 := key hB ha
    obtain ⟨_, m2, m3, m4, _⟩ := rUpto_inv B1 hb
    have B2 := key B1 hb
    obtain ⟨_, n2, n3, n4, _⟩ := rUpto_inv B2 hc
    have B3 := key B2 hc
    refine ⟨⟨k3, by show a1 < 16; omega, m3, m4, n3, n4⟩, ?_, ?_, ?_⟩
    · show num a1 ++ num b1 ++ num c1 ++ s1 ++ g1 = l
      rw [k2, m2, n2, f5, f2]
      simp
    · exact fun y hy => B3 y (by rw [f5]; exact List.mem_append.2 (.inl hy))
    · exact fun y hy => B3 y (by rw [f5, f2]; simp [hy])
  · rename_i hd
    exact absurd h hd
theorem rcp_zero {l : List Nat} (h : ¬ (rRcp l).2 = 0) : (rRcp l).1 = Rcp.zero := by
  unfold rRcp at h ⊢
  simp only at h ⊢
  split
  · rename_i hd; rw [if_pos hd] at h; exact absurd rfl h
  · rfl
theorem sgd_back {r : Rcp} {s : List Nat} (hr : r.ok) (h : r.right) (hs : s.length ≤ 65536) : rSgd (sput r s) = (r, s, 0) := by
  have e : sput r s = num (rtext r).length ++ (rtext r ++ (num s.length ++ (s ++ []))) := by simp [sput]
  have hl := rtext_len hr
  unfold rSgd
  rw [e]
  simp only [rText_text (s := rtext r) (m := 65536) (by omega) (by decide), rText_text (s := s) (m := 65536) (by omega) (by decide), rDone_nil, if_true, rcp_back hr h]
theorem rText_no {e m : Int} (hm : 0 ≤ m) (hz : ¬ e = 0) (l : List Nat) : rText m e l = ([], e, l) := by
  have h1 : rUpto m e l = (0, e, l) := by rw [rUpto_of (e2 := e) (rNum_no hz l) (by rw [if_neg (by omega)]), if_neg hz]
  rw [rText_of h1 (b := []) (e2 := e) (l2 := l)]
  unfold rRaw
  rw [if_neg hz]
theorem sgd_inv {l : List Nat} (hB : Bytes l) (h : (rSgd l).2.2 = 0) : (rSgd l).1.right ∧ sput (rSgd l).1 (rSgd l).2.1 = l ∧ (rSgd l).1.byt ∧ Bytes (rSgd l).2.1 := by
  unfold rSgd at h ⊢
  simp only at h ⊢
  generalize hb : rText 65536 (rText 65536 0 l).2.1 (rText 65536 0 l).2.2 = b at h ⊢
  generalize ha : rText 65536 0 l = a at hb h ⊢
  obtain ⟨b1, b2, b3⟩ := b
  obtain ⟨a1, a2, a3⟩ := a
  simp only at h hb ⊢
  by_cases hd : rDone b2 b3 = 0
  · rw [if_pos hd] at h ⊢
    by_cases hq : (rRcp a1).2 = 0
    · rw [if_pos hq] at h ⊢
      obtain ⟨rfl, rfl⟩ := rDone_inv hd
      have ha0 : a2 = 0 := by
        by_cases hz : a2 = 0
        · exact hz
        · rw [rText_no (by decide) hz] at hb
          simp only [Prod.mk.injEq] at hb
          exact absurd hb.2.1 hz
      subst ha0
      obtain ⟨_, k2, _⟩ := rText_inv hB ha
      have B1 : Bytes a3 := fun y hy => hB y (by rw [k2]; simp [hy])
      obtain ⟨_, m2, _⟩ := rText_inv B1 hb
      obtain ⟨q1, q2, q3⟩ := rcp_inv (rText_bytes hB ha) hq
      refine ⟨q1, ?_, q3, rText_bytes B1 hb⟩
      show num (rtext (rRcp a1).1).length ++ rtext (rRcp a1).1 ++ num b1.length ++ b1 = l
      rw [q2, k2, m2]
      simp
    · rw [if_neg hq] at h
      exact absurd h hq
  · rw [if_neg hd] at h
    exact absurd h hd
theorem sgd_no {l : List Nat} (h : ¬ (rSgd l).2.2 = 0) : (rSgd l).1 = Rcp.zero ∧ (rSgd l).2.1 = [] := by
  unfold rSgd at h ⊢
  simp only at h ⊢
  split
  · rename_i hd
    rw [if_pos hd] at h
    split
    · rename_i hq; rw [if_pos hq] at h; exact absurd rfl h
    · exact ⟨rfl, rfl⟩
  · exact ⟨rfl, rfl⟩
theorem zero_ok : Rcp.zero.ok := ⟨length_zsum, length_zsum⟩
theorem zsum_lt : Bytes zsum := fun x h => by rw [(List.mem_replicate.1 h).2]; decide
theorem sgd_ok (l : List Nat) : (rSgd l).1.ok := by
  unfold rSgd
  simp only
  split
  · split
    · exact rcp_ok _
    · exact zero_ok
  · exact zero_ok
theorem eqRcp (r q : Rcp) (hr : r.ok) (hq : q.ok) : EqV Try.prog 3 46 (.agg (cat (rcpC r)).toArray) (.agg (cat (rcpC q)).toArray) (r = q) :=
  (EqV.struct (j := 2) Try.underlying46 (by kernel_rfl)
    (eqf_cons rfl (fun w => run_part1 (a := 0) w ag3 rfl rfl) (fun w => run_part1 (a := 0) w ag3 rfl rfl) ((EqV.int Try.underlying3).more 1)
    (eqf_cons rfl (fun w => run_part1 (a := 1) w ag3 rfl rfl) (fun w => run_part1 (a := 1) w ag3 rfl rfl) ((EqV.int Try.underlying3).more 1)
    (eqf_cons rfl (fun w => run_part1 (a := 2) w ag3 rfl rfl) (fun w => run_part1 (a := 2) w ag3 rfl rfl) ((EqV.int Try.underlying3).more 1)
    (eqf_cons rfl (fun w => run_partA (a := 3) w ag44 sz44 rfl rfl (by simp [hr.1])) (fun w => run_partA (a := 3) w ag44 sz44 rfl rfl (by simp [hq.1])) (EqV.sum eq44 hr.1 hq.1)
    (eqf_cons rfl (fun w => run_partA (a := 4) w ag44 sz44 rfl (by simp [rcpC, hr.1]) (by simp [hr.2])) (fun w => run_partA (a := 4) w ag44 sz44 rfl (by simp [rcpC, hq.1]) (by simp [hq.2])) (EqV.sum eq44 hr.2 hq.2) eqf_nil)))))).iff
    (by obtain ⟨a, b, c, d, e⟩ := r; obtain ⟨a', b', c', d', e'⟩ := q; simp)
noncomputable instance : DecidableEq Rcp := fun r q => Classical.propDecidable _
theorem l12awake (w0 : World) :
    Ret Try.prog 24 [] w0 fun v w' => v = .bool true ∧ Below w0.heap.size w0 w' := by
  refine enter Try.func24 rfl Try.ntmps24 (Nat.le_of_ble_eq_true rfl) ?_
  have S := St.init w0
  refine s_seq (s_plain ?_)
  refine p_val (e_assign (v := .bool _) rfl) rfl ?_
  refine p_nil (x_then (s_seq (s_plain ?_)))
  refine p_val (e_buildS0 bt54) rfl ?_
  refine p_does (d_call Try.func28 nm28 rfl rfl (sg_put _ Rcp.zero none 0 [] zero_ok (Rd.nil _ _ _) (by decide))) rfl ?_
  rintro _ w ⟨k5, c5, rfl, T⟩
  have S := S.merge T rfl
  refine p_does (d_call Try.func27 nm27 rfl rfl (Ret.mono (R' := fun v w' => ∃ k c2, v = .tuple #[.agg (cat (sgdC Rcp.zero (at_ k) 0 c2)).toArray, .int .i64 0] ∧ St _ w' [] [k] [Rw 5 1 0 c2 (bv [])]) (sg_get _ _ _ (sput Rcp.zero []) (S.rdRw 0 rfl rfl) (sput_lt ⟨zsum_lt, zsum_lt⟩ (by simp)) (S.capRw 0 rfl rfl) (by have h1 := rtext_len zero_ok; have h2 := num_len (rtext Rcp.zero).length; have h3 := num_len ([] : List Nat).length; unfold sput; simp only [List.length_append, List.length_nil] at *; omega)) (fun v w' ⟨k, c2, hv, hT⟩ => by rw [sgd_back zero_ok (by simp [Rcp.right, Rcp.zero]) (by decide)] at hv hT; exact ⟨k, c2, hv, hT⟩))) rfl ?_
  rintro _ w ⟨k6, c6, rfl, T⟩
  have S := S.merge T rfl
  refine p_val (e_move (v := .tuple _) rfl) rfl ?_
  refine p_val (e_extract rfl rfl) rfl ?_
  refine p_val (e_extract rfl rfl) rfl ?_
  refine p_does (d_allocA S zs54) rfl ?_
  rintro _ w ⟨b1, rfl, S⟩
  refine p_does (d_storeW S 0 rfl rfl (by first | exact bv_one _ | exact sv_one _ | exact iv_one _ | with_reducible assumption | (refine One.mem ?_; repeat (first | exact One.bv _ | exact One.sv _ | exact One.iv _ | exact One.nil | exact One.cat0 | refine One.cat1 ?_ ?_ | refine One.cons rfl ?_ | refine One.append ?_ ?_))) sz54 (by first | with_reducible assumption | (simp [cat, sgdC, zero_ok.1, zero_ok.2]; done) | (simp [cat, sgdC, zero_ok.1, zero_ok.2]; omega) | rfl) rfl rfl (by first | with_reducible assumption | (simp [cat, sgdC, zero_ok.1, zero_ok.2]; done) | (simp [cat, sgdC, zero_ok.1, zero_ok.2]; omega) | rfl)) rfl ?_
  intro _ w S
  refine p_val (e_assign (v := .int _ _) rfl) rfl ?_
  refine p_nil (x_then (s_seq ?_))
  refine s_cutK (ks := [some b1, k6, k5]) (ps := [Ex _ _, Rw _ _ _ _ _, Rw _ _ _ _ _]) [] trivial S (fun keep ks ps f' w' => ∃ u bb, f' = upds u ((0, .bool bb) :: keep) ∧ (bb = true ↔ True) ∧ St w0 w' [] ks ps) ?_ ?_
  · refine s_plain ?_
    refine p_val (e_buildS bt46 (Eq.trans (fill_cat (v := .int _ _) (l' := [[_]]) 0 1 rfl (rfl) (by first | with_reducible assumption | (simp [cat, sgdC, zero_ok.1, zero_ok.2]; done) | (simp [cat, sgdC, zero_ok.1, zero_ok.2]; omega) | rfl) (by first | with_reducible assumption | (simp [cat, sgdC, zero_ok.1, zero_ok.2]; done) | (simp [cat, sgdC, zero_ok.1, zero_ok.2]; omega) | rfl) (by first | with_reducible assumption | (simp [cat, sgdC, zero_ok.1, zero_ok.2]; done) | (simp [cat, sgdC, zero_ok.1, zero_ok.2]; omega) | rfl)) rfl)) rfl ?_
    refine p_does (d_call Try.func22 nm22 rfl rfl (rc_right _ ⟨16, 0, 0, zsum, zsum⟩ ⟨length_zsum, length_zsum⟩)) rfl ?_
    rintro _ w ⟨rfl, hB⟩
    have S := S.below hB
    rcases Classical.em (Rcp.right ⟨16, 0, 0, zsum, zsum⟩) with hg10 | hg10
    · exact False.elim (by simp [Rcp.right] at hg10)
    · rw [decide_eq_false hg10]
      refine p_val (e_not rfl) rfl ?_
      refine p_val (e_move (v := .bool _) rfl) rfl ?_
      refine pg_val rfl rfl rfl rfl rfl (e_buildS bt46 (Eq.trans (fill_cat (v := .int _ _) (l' := [[_]]) 0 1 rfl (rfl) (by first | with_reducible assumption | (simp [cat, sgdC, zero_ok.1, zero_ok.2]; done) | (simp [cat, sgdC, zero_ok.1, zero_ok.2]; omega) | rfl) (by first | with_reducible assumption | (simp [cat, sgdC, zero_ok.1, zero_ok.2]; done) | (simp [cat, sgdC, zero_ok.1, zero_ok.2]; omega) | rfl) (by first | with_reducible assumption | (simp [cat, sgdC, zero_ok.1, zero_ok.2]; done) | (simp [cat, sgdC, zero_ok.1, zero_ok.2]; omega) | rfl)) rfl)) ?_
      refine pg_does rfl rfl rfl rfl rfl (d_call Try.func22 nm22 rfl rfl (rc_right _ ⟨15, 0, 0, zsum, zsum⟩ ⟨length_zsum, length_zsum⟩)) ?_
      rintro _ w ⟨rfl, hB⟩
      have S := S.below hB
      rcases Classical.em (Rcp.right ⟨15, 0, 0, zsum, zsum⟩) with hg14 | hg14
      · rw [decide_eq_true hg14]
        refine p_val (e_pick_t rfl rfl) rfl ?_
        refine p_val (e_move (v := .bool _) rfl) rfl ?_
        refine pg_val rfl rfl rfl rfl rfl (e_move (v := .int _ _) rfl) ?_
        refine pg_val rfl rfl rfl rfl rfl (e_eql rfl rfl) ?_
        refine p_val (e_pick_t rfl rfl) rfl ?_
        refine p_val (e_assign (v := .bool _) rfl) rfl ?_
        exact p_nil (x_then ⟨_, rfl, _, _, upds_eq ⟨rfl, trivial⟩, by first | (simp only [decide_eq_true_eq, eq_self, true_iff, iff_true, iff_false, Bool.false_eq_true, false_iff, ge_iff_le, gt_iff_lt, true_and, and_true, false_and, and_false, true_or, or_true, false_or, or_false, not_true_eq_false, not_false_eq_true]; omega) | simp | omega | simp_all, S⟩)
      · exact False.elim (hg14 (by simp [Rcp.right]))
  · rintro f w ⟨u, b0, rfl, hb0, S⟩
    refine x_then (s_ret ?_)
    exact post1 (v := .bool _) Try.results24 rfl (⟨by rw [hb0.2 trivial], S.to_below⟩)
end Go.Proofs.Ytcgcjklpilbndaa

/- What is read of messages' bytes: plain laws. It proves no statement by itself. -/
set_option linter.unusedSimpArgs false
set_option linter.unusedVariables false
set_option maxRecDepth 100000
set_option maxHeartbeats 1000000
namespace Go.Proofs.Ytcgcjklpilbndaa
open Go Go.RowKit E
def rSgn (e : Int) (l : List Nat) : Int × List Nat × Int × List Nat := ((rUpto 255 e l).1, (rSum (rUpto 255 e l).2.1 (rUpto 255 e l).2.2).1, (rSum (rUpto 255 e l).2.1 (rUpto 255 e l).2.2).2)
structure RB where
  m : Msg
  (b s : List Nat)
  (e2 e : Int)
  l : List Nat
structure RM where
  m : Msg
  (b s : List Nat)
  e : Int
def mz (k f t : Int) : Msg := ⟨k, f, t, 0, 0, 0, zsum, zsum, 0, zsum, 0, zsum, Jb.zero, Rcp.zero⟩
def rBody (m0 : Msg) (e : Int) (l : List Nat) : RB :=
  if m0.k = 1 then
    let a := rUpto 1048576 e l
    let b := rUpto 1125899906842624 a.2.1 a.2.2
    let c := rUpto 1125899906842624 b.2.1 b.2.2
    let h := rSum c.2.1 c.2.2
    let g := rSum h.2.1 h.2.2
    let q := rSgn g.2.1 g.2.2
    ⟨{ m0 with n := a.1, c := b.1, p := c.1, h0 := h.1, h1 := g.1, gk := q.1, go := q.2.1 }, [], [], 0, q.2.2.1, q.2.2.2⟩
  else if m0.k = 2 then
    let a := rUpto 1048576 e l
    let h := rSum a.2.1 a.2.2
    let q := rSgn h.2.1 h.2.2
    ⟨{ m0 with m := a.1, sec := h.1, gk := q.1, go := q.2.1 }, [], [], 0, q.2.2.1, q.2.2.2⟩
  else if m0.k = 3 then
    let a := rUpto 1048576 e l
    let h := rSum a.2.1 a.2.2
    ⟨{ m0 with m := a.1, sec := h.1 }, [], [], 0, h.2.1, h.2.2⟩
  else if m0.k = 4 then
    let x := rText 65536 e l
    ⟨{ m0 with j := (rJob x.1).1 }, (rJob x.1).2.1, [], (rJob x.1).2.2, x.2.1, x.2.2⟩
  else if m0.k = 5 then
    let x := rText 65536 e l
    ⟨{ m0 with r := (rSgd x.1).1 }, [], (rSgd x.1).2.1, (rSgd x.1).2.2, x.2.1, x.2.2⟩
  else ⟨m0, [], [], 0, e, l⟩
def rMsg (l : List Nat) : RM :=
  let a := rUpto 5 0 l
  let b := rUpto 255 a.2.1 a.2.2
  let c := rUpto 255 b.2.1 b.2.2
  let q := rBody (mz a.1 b.1 c.1) c.2.1 c.2.2
  let d := rDone q.e q.l
  if ¬ d = 0 then ⟨mz 0 0 0, [], [], d⟩ else if ¬ q.e2 = 0 then ⟨mz 0 0 0, [], [], q.e2⟩ else if ¬ q.m.right then ⟨mz 0 0 0, [], [], 4⟩ else ⟨q.m, q.b, q.s, 0⟩
/-- 'x' was read: if nothing went wrong, nothing had, and what was there began with x -/
def Rds (e : Int) (l x : List Nat) (e' : Int) (l' : List Nat) (p : Prop) : Prop := e' = 0 → e = 0 ∧ (Bytes l → l = x ++ l' ∧ Bytes l' ∧ p)
theorem Rds.trans {e e1 e2 : Int} {l x l1 y l2 : List Nat} {p q : Prop} (h : Rds e l x e1 l1 p) (h' : Rds e1 l1 y e2 l2 q) : Rds e l (x ++ y) e2 l2 (p ∧ q) := fun h0 => by
  obtain ⟨h1, k1⟩ := h' h0
  obtain ⟨h2, k2⟩ := h h1
  refine ⟨h2, fun hB => ?_⟩
  obtain ⟨a1, a2, a3⟩ := k2 hB
  obtain ⟨b1, b2, b3⟩ := k1 a2
  exact ⟨by rw [a1, b1, List.append_assoc], b2, a3, b3⟩
theorem Rds.refl (e : Int) (l : List Nat) : Rds e l [] e l True := fun h => ⟨h, fun hB => ⟨rfl, hB, trivial⟩⟩
theorem Rds.imp {e e1 : Int} {l x l1 : List Nat} {p q : Prop} (h : Rds e l x e1 l1 p) (hp : p → q) : Rds e l x e1 l1 q := fun h0 => ⟨(h h0).1, fun hB => let k := (h h0).2 hB; ⟨k.1, k.2.1, hp k.2.2⟩⟩
theorem rUpto_no {e m : Int} (hm : 0 ≤ m) (hz : ¬ e = 0) (l : List Nat) : rUpto m e l = (0, e, l) := by
  rw [rUpto_of (e2 := e) (rNum_no hz l) (by rw [if_neg (by omega)]), if_neg hz]
theorem rUpto_rds {m : Int} (hm : 0 ≤ m) (e : Int) (l : List Nat) : Rds e l (num (rUpto m e l).1) (rUpto m e l).2.1 (rUpto m e l).2.2 (0 ≤ (rUpto m e l).1 ∧ (rUpto m e l).1 ≤ m) := fun h0 => by
  have he : e = 0 := by
    by_cases hz : e = 0
    · exact hz
    · rw [rUpto_no hm hz] at h0; exact absurd h0 hz
  refine ⟨he, fun hB => ?_⟩
  have h := rUpto_inv (m := m) (e := e) (a := (rUpto m e l).1) (l := l) (l' := (rUpto m e l).2.2) hB (by rw [← h0])
  exact ⟨h.2.1, fun y hy => hB y (by rw [h.2.1]; exact List.mem_append.2 (.inr hy)), h.2.2.1, h.2.2.2.1⟩
theorem rSum_rds (e : Int) (l : List Nat) : Rds e l (rSum e l).1 (rSum e l).2.1 (rSum e l).2.2 ((rSum e l).1.length = 32) := fun h0 => by
  have h := rSum_inv (e := e) (s := (rSum e l).1) (l := l) (l' := (rSum e l).2.2) (by rw [← h0])
  exact ⟨h.1, fun hB => ⟨h.2.1, fun y hy => hB y (by rw [h.2.1]; exact List.mem_append.2 (.inr hy)), h.2.2⟩⟩
theorem rText_rds {m : Int} (hm : 0 ≤ m) (e : Int) (l : List Nat) : Rds e l (num (rText m e l).1.length ++ (rText m e l).1) (rText m e l).2.1 (rText m e l).2.2 (Bytes (rText m e l).1) := fun h0 => by
  have he : e = 0 := by
    by_cases hz : e = 0
    · exact hz
    · rw [rText_no hm hz] at h0; exact absurd h0 hz
  refine ⟨he, fun hB => ?_⟩
  have h := rText_inv (m := m) (e := e) (s := (rText m e l).1) (l := l) (l' := (rText m e l).2.2) hB (by rw [← h0])
  exact ⟨h.2.1.trans (List.append_assoc _ _ _).symm, fun y hy => hB y (by rw [h.2.1]; simp [hy]), rText_bytes (m := m) (e := e) (e1 := (rText m e l).2.1) (l' := (rText m e l).2.2) hB rfl⟩
theorem rSgn_rds (e : Int) (l : List Nat) : Rds e l (num (rSgn e l).1 ++ (rSgn e l).2.1) (rSgn e l).2.2.1 (rSgn e l).2.2.2 (0 ≤ (rSgn e l).1 ∧ (rSgn e l).1 ≤ 255) :=
  ((rUpto_rds (by decide) e l).trans (rSum_rds _ _)).imp fun h => h.1
theorem job_rds {l : List Nat} (hB : Bytes l) (h : (rJob l).2.2 = 0) : jput (rJob l).1 (rJob l).2.1 = l ∧ (rJob l).1.plain := by
  unfold rJob at h ⊢
  simp only at h ⊢
  split at h
  · rename_i hd
    rw [if_pos hd]
    obtain ⟨e1, e2⟩ := rDone_inv hd
    have k := ((((rUpto_rds (m := 1048576) (by decide) 0 l).trans (rUpto_rds (m := 1048576) (by decide) _ _)).trans (rSum_rds _ _)).trans (rText_rds (m := 65536) (by decide) _ _)) e1
    obtain ⟨k1, _, k3⟩ := k.2 hB
    refine ⟨?_, k3.1.1.1.1, k3.1.1.1.2, k3.1.1.2.1, k3.1.1.2.2⟩
    rw [e2] at k1
    unfold jput
    simp only [nums, List.flatMap_cons, List.flatMap_nil, List.append_nil] at k1 ⊢
    refine Eq.trans ?_ k1.symm
    simp only [List.append_assoc]
  · rename_i hd; exact absurd h hd
theorem mz_ok (k f t : Int) : (mz k f t).ok := ⟨length_zsum, length_zsum, length_zsum, length_zsum, length_zsum, length_zsum, length_zsum⟩
theorem rSum_len (e : Int) (l : List Nat) : (rSum e l).1.length = 32 := length_sum32 _
theorem body_ok (k f t e : Int) (l : List Nat) : (rBody (mz k f t) e l).m.ok := by
  unfold rBody
  split
  · exact ⟨rSum_len _ _, rSum_len _ _, rSum_len _ _, length_zsum, length_zsum, length_zsum, length_zsum⟩
  · split
    · exact ⟨length_zsum, length_zsum, rSum_len _ _, rSum_len _ _, length_zsum, length_zsum, length_zsum⟩
    · split
      · exact ⟨length_zsum, length_zsum, length_zsum, rSum_len _ _, length_zsum, length_zsum, length_zsum⟩
      · split
        · exact ⟨length_zsum, length_zsum, length_zsum, length_zsum, jb_ok _, length_zsum, length_zsum⟩
        · split
          · exact ⟨length_zsum, length_zsum, length_zsum, length_zsum, length_zsum, (sgd_ok _).1, (sgd_ok _).2⟩
          · exact mz_ok k f t
theorem body_kft (k f t e : Int) (l : List Nat) : (rBody (mz k f t) e l).m.k = k ∧ (rBody (mz k f t) e l).m.f = f ∧ (rBody (mz k f t) e l).m.t = t := by
  unfold rBody
  split
  · exact ⟨rfl, rfl, rfl⟩
  · split
    · exact ⟨rfl, rfl, rfl⟩
    · split
      · exact ⟨rfl, rfl, rfl⟩
      · split
        · exact ⟨rfl, rfl, rfl⟩
        · split
          · exact ⟨rfl, rfl, rfl⟩
          · exact ⟨rfl, rfl, rfl⟩
theorem zplain : (mz 0 0 0).plain := by decide
theorem zp0 : ((0 : Int) ≤ 0 ∧ (0 : Int) ≤ 1048576 ∧ (0 : Int) ≤ 0 ∧ (0 : Int) ≤ 1125899906842624 ∧ (0 : Int) ≤ 0 ∧ (0 : Int) ≤ 1125899906842624) ∧ ((0 : Int) ≤ 0 ∧ (0 : Int) ≤ 255) ∧ (0 : Int) ≤ 0 ∧ (0 : Int) ≤ 1048576 := by decide
/-- A body that is read has just its bytes. -/
theorem body_rds (k f t : Int) (hk : 1 ≤ k ∧ k ≤ 5) (e : Int) (l : List Nat) (h2 : (rBody (mz k f t) e l).e2 = 0) :
    Rds e l (tbody (rBody (mz k f t) e l).m (rBody (mz k f t) e l).b (rBody (mz k f t) e l).s) (rBody (mz k f t) e l).e (rBody (mz k f t) e l).l (rBody (mz k f t) e l).m.plain := by
  by_cases h1 : k = 1
  · subst h1
    obtain ⟨a, ha⟩ : ∃ a, a = rUpto 1048576 e l := ⟨_, rfl⟩
    obtain ⟨b, hb⟩ : ∃ b, b = rUpto 1125899906842624 a.2.1 a.2.2 := ⟨_, rfl⟩
    obtain ⟨c, hc⟩ : ∃ c, c = rUpto 1125899906842624 b.2.1 b.2.2 := ⟨_, rfl⟩
    obtain ⟨h, hh⟩ : ∃ h, h = rSum c.2.1 c.2.2 := ⟨_, rfl⟩
    obtain ⟨g, hg⟩ : ∃ g, g = rSum h.2.1 h.2.2 := ⟨_, rfl⟩
    obtain ⟨q, hq⟩ : ∃ q, q = rSgn g.2.1 g.2.2 := ⟨_, rfl⟩
    have hr : rBody (mz 1 f t) e l = ⟨⟨1, f, t, a.1, b.1, c.1, h.1, g.1, q.1, q.2.1, 0, zsum, Jb.zero, Rcp.zero⟩, [], [], 0, q.2.2.1, q.2.2.2⟩ := by
      rw [hq, hg, hh, hc, hb, ha]; rfl
    have k1 := rUpto_rds (m := 1048576) (by decide) e l
    have k2 := rUpto_rds (m := 1125899906842624) (by decide) a.2.1 a.2.2
    have k3 := rUpto_rds (m := 1125899906842624) (by decide) b.2.1 b.2.2
    have k4 := rSum_rds c.2.1 c.2.2
    have k5 := rSum_rds h.2.1 h.2.2
    have k6 := rSgn_rds g.2.1 g.2.2
    rw [← ha] at k1
    rw [← hb] at k2
    rw [← hc] at k3
    rw [← hh] at k4
    rw [← hg] at k5
    rw [← hq] at k6
    have k := ((((k1.trans k2).trans k3).trans k4).trans k5).trans k6
    rw [hr]
    have ht : tbody ⟨1, f, t, a.1, b.1, c.1, h.1, g.1, q.1, q.2.1, 0, zsum, Jb.zero, Rcp.zero⟩ [] [] = num a.1 ++ num b.1 ++ num c.1 ++ h.1 ++ g.1 ++ (num q.1 ++ q.2.1) := by simp [tbody, nums]
    show Rds e l (tbody _ _ _) _ _ _
    rw [ht]
    refine k.imp fun hp => ?_
    obtain ⟨⟨⟨⟨⟨p1, p2⟩, p3⟩, _⟩, _⟩, p4⟩ := hp
    exact ⟨⟨⟨p1.1, p1.2, p2.1, p2.2, p3.1, p3.2⟩, p4, (show (0 : Int) ≤ 0 ∧ (0 : Int) ≤ 1048576 by decide)⟩, (show Jb.zero.plain by decide), (show Rcp.zero.right by decide)⟩
  · by_cases h2' : k = 2
    · subst h2'
      obtain ⟨a, ha⟩ : ∃ a, a = rUpto 1048576 e l := ⟨_, rfl⟩
      obtain ⟨h, hh⟩ : ∃ h, h = rSum a.2.1 a.2.2 := ⟨_, rfl⟩
      obtain ⟨q, hq⟩ : ∃ q, q = rSgn h.2.1 h.2.2 := ⟨_, rfl⟩
      have hr : rBody (mz 2 f t) e l = ⟨⟨2, f, t, 0, 0, 0, zsum, zsum, q.1, q.2.1, a.1, h.1, Jb.zero, Rcp.zero⟩, [], [], 0, q.2.2.1, q.2.2.2⟩ := by
        rw [hq, hh, ha]; rfl
      have k1 := rUpto_rds (m := 1048576) (by decide) e l
      have k4 := rSum_rds a.2.1 a.2.2
      have k6 := rSgn_rds h.2.1 h.2.2
      rw [← ha] at k1
      rw [← hh] at k4
      rw [← hq] at k6
      have k := (k1.trans k4).trans k6
      rw [hr]
      have ht : tbody ⟨2, f, t, 0, 0, 0, zsum, zsum, q.1, q.2.1, a.1, h.1, Jb.zero, Rcp.zero⟩ [] [] = num a.1 ++ h.1 ++ (num q.1 ++ q.2.1) := by simp [tbody]
      show Rds e l (tbody _ _ _) _ _ _
      rw [ht]
      refine k.imp fun hp => ?_
      obtain ⟨⟨p1, _⟩, p4⟩ := hp
      exact ⟨⟨(show (0 : Int) ≤ 0 ∧ (0 : Int) ≤ 1048576 ∧ (0 : Int) ≤ 0 ∧ (0 : Int) ≤ 1125899906842624 ∧ (0 : Int) ≤ 0 ∧ (0 : Int) ≤ 1125899906842624 by decide), p4, p1⟩, (show Jb.zero.plain by decide), (show Rcp.zero.right by decide)⟩
    · by_cases h3 : k = 3
      · subst h3
        obtain ⟨a, ha⟩ : ∃ a, a = rUpto 1048576 e l := ⟨_, rfl⟩
        obtain ⟨h, hh⟩ : ∃ h, h = rSum a.2.1 a.2.2 := ⟨_, rfl⟩
        have hr : rBody (mz 3 f t) e l = ⟨⟨3, f, t, 0, 0, 0, zsum, zsum, 0, zsum, a.1, h.1, Jb.zero, Rcp.zero⟩, [], [], 0, h.2.1, h.2.2⟩ := by
          rw [hh, ha]; rfl
        have k1 := rUpto_rds (m := 1048576) (by decide) e l
        have k4 := rSum_rds a.2.1 a.2.2
        rw [← ha] at k1
        rw [← hh] at k4
        have k := k1.trans k4
        rw [hr]
        have ht : tbody ⟨3, f, t, 0, 0, 0, zsum, zsum, 0, zsum, a.1, h.1, Jb.zero, Rcp.zero⟩ [] [] = num a.1 ++ h.1 := by simp [tbody]
        show Rds e l (tbody _ _ _) _ _ _
        rw [ht]
        refine k.imp fun hp => ?_
        exact ⟨⟨(show (0 : Int) ≤ 0 ∧ (0 : Int) ≤ 1048576 ∧ (0 : Int) ≤ 0 ∧ (0 : Int) ≤ 1125899906842624 ∧ (0 : Int) ≤ 0 ∧ (0 : Int) ≤ 1125899906842624 by decide), (show (0 : Int) ≤ 0 ∧ (0 : Int) ≤ 255 by decide), hp.1⟩, (show Jb.zero.plain by decide), (show Rcp.zero.right by decide)⟩
      · by_cases h4 : k = 4
        · subst h4
          have h2 : (rJob (rText 65536 e l).1).2.2 = 0 := h2
          intro h0
          have k := rText_rds (m := 65536) (by decide) e l h0
          refine ⟨k.1, fun hB => ?_⟩
          obtain ⟨k1, k2, k3⟩ := k.2 hB
          obtain ⟨j1, j2⟩ := job_rds k3 h2
          refine ⟨?_, k2, zp0, j2, (show Rcp.zero.right by decide)⟩
          refine k1.trans ?_
          show _ = (num (jput (rJob (rText 65536 e l).1).1 (rJob (rText 65536 e l).1).2.1).length ++ jput (rJob (rText 65536 e l).1).1 (rJob (rText 65536 e l).1).2.1) ++ _
          rw [j1]
          rfl
        · have h5 : k = 5 := by omega
          subst h5
          have h2 : (rSgd (rText 65536 e l).1).2.2 = 0 := h2
          intro h0
          have k := rText_rds (m := 65536) (by decide) e l h0
          refine ⟨k.1, fun hB => ?_⟩
          obtain ⟨k1, k2, k3⟩ := k.2 hB
          obtain ⟨j1, j2, _, _⟩ := sgd_inv k3 h2
          refine ⟨?_, k2, zp0, (show Jb.zero.plain by decide), j1⟩
          refine k1.trans ?_
          show _ = (num (sput (rSgd (rText 65536 e l).1).1 (rSgd (rText 65536 e l).1).2.1).length ++ sput (rSgd (rText 65536 e l).1).1 (rSgd (rText 65536 e l).1).2.1) ++ _
          rw [j2]
          rfl
theorem tk_no {l : List Nat} (h : ¬ (rMsg l).e = 0) : rMsg l = ⟨mz 0 0 0, [], [], (rMsg l).e⟩ := by
  unfold rMsg at h ⊢
  simp only at h ⊢
  split
  · rfl
  · split
    · rfl
    · split
      · rfl
      · rename_i h1 h2 h3
        rw [if_neg h1, if_neg h2, if_neg h3] at h
        exact absurd rfl h
/-- what is known of a message that is read -/
theorem tk_yes {l : List Nat} (h : (rMsg l).e = 0) : ∃ q : RB, q = rBody (mz (rUpto 5 0 l).1 (rUpto 255 (rUpto 5 0 l).2.1 (rUpto 5 0 l).2.2).1 (rUpto 255 (rUpto 255 (rUpto 5 0 l).2.1 (rUpto 5 0 l).2.2).2.1 (rUpto 255 (rUpto 5 0 l).2.1 (rUpto 5 0 l).2.2).2.2).1) (rUpto 255 (rUpto 255 (rUpto 5 0 l).2.1 (rUpto 5 0 l).2.2).2.1 (rUpto 255 (rUpto 5 0 l).2.1 (rUpto 5 0 l).2.2).2.2).2.1 (rUpto 255 (rUpto 255 (rUpto 5 0 l).2.1 (rUpto 5 0 l).2.2).2.1 (rUpto 255 (rUpto 5 0 l).2.1 (rUpto 5 0 l).2.2).2.2).2.2 ∧
    rDone q.e q.l = 0 ∧ q.e2 = 0 ∧ q.m.right ∧ (rMsg l).m = q.m ∧ (rMsg l).b = q.b ∧ (rMsg l).s = q.s := by
  refine ⟨_, rfl, ?_⟩
  unfold rMsg at h ⊢
  simp only at h ⊢
  split at h
  · rename_i h1; exact absurd h h1
  · rename_i h1
    split at h
    · rename_i h2; exact absurd h h2
    · rename_i h2
      split at h
      · exact absurd h (by decide)
      · rename_i h3
        rw [if_neg h1, if_neg h2, if_neg h3]
        exact ⟨Classical.not_not.1 h1, Classical.not_not.1 h2, Classical.not_not.1 h3, rfl, rfl, rfl⟩
theorem tk_ok (l : List Nat) : (rMsg l).m.ok := by
  by_cases h : (rMsg l).e = 0
  · obtain ⟨q, hq, _, _, _, hm, _⟩ := tk_yes h
    rw [hm, hq]; exact body_ok _ _ _ _ _
  · rw [tk_no h]; exact mz_ok 0 0 0
theorem tk_inv {l : List Nat} (hB : Bytes l) (h : (rMsg l).e = 0) : (rMsg l).m.right ∧ (rMsg l).m.plain ∧ tput (rMsg l).m (rMsg l).b (rMsg l).s = l := by
  obtain ⟨q, hq, hd, h2, hr, hm, hb, hs⟩ := tk_yes h
  rw [hm, hb, hs]
  obtain ⟨a, ha⟩ : ∃ a, a = rUpto 5 0 l := ⟨_, rfl⟩
  obtain ⟨b, hb'⟩ : ∃ b, b = rUpto 255 a.2.1 a.2.2 := ⟨_, rfl⟩
  obtain ⟨c, hc⟩ : ∃ c, c = rUpto 255 b.2.1 b.2.2 := ⟨_, rfl⟩
  rw [← ha, ← hb', ← hc] at hq
  obtain ⟨e1, e2⟩ := rDone_inv hd
  have kft := body_kft a.1 b.1 c.1 c.2.1 c.2.2
  rw [← hq] at kft
  have k1 := rUpto_rds (m := 5) (by decide) 0 l
  have k2 := rUpto_rds (m := 255) (by decide) a.2.1 a.2.2
  have k3 := rUpto_rds (m := 255) (by decide) b.2.1 b.2.2
  have hk : 1 ≤ a.1 ∧ a.1 ≤ 5 := by rw [← kft.1]; exact ⟨hr.1, hr.2.1⟩
  have k4 := body_rds a.1 b.1 c.1 hk c.2.1 c.2.2 (by rw [← hq]; exact h2)
  rw [← ha] at k1
  rw [← hb'] at k2
  rw [← hc] at k3
  rw [← hq] at k4
  have k := (((k1.trans k2).trans k3).trans k4) e1
  obtain ⟨x1, _, x3⟩ := k.2 hB
  refine ⟨hr, x3.2, ?_⟩
  rw [e2] at x1
  unfold tput
  rw [kft.1, kft.2.1, kft.2.2]
  refine Eq.trans ?_ x1.symm
  simp [nums]
theorem jb_back {j : Jb} {b : List Nat} (hj : j.ok) (h : j.plain) (hb : b.length ≤ 65536) : rJob (jput j b) = (j, b, 0) := by
  have hj' : j.h.length = 32 := hj
  have e : jput j b = num j.c ++ (num j.s ++ (j.h ++ (num b.length ++ (b ++ [])))) := by simp [jput, nums]
  unfold rJob
  rw [e]
  simp only [rUpto_num (a := j.c) (m := 1048576) ⟨h.1, h.2.1⟩ (by decide), rUpto_num (a := j.s) (m := 1048576) ⟨h.2.2.1, h.2.2.2⟩ (by decide), rSum_sum hj', rText_text (s := b) (m := 65536) (by omega) (by decide), rDone_nil, if_true]
theorem body_back {m : Msg} {b s : List Nat} (hm : m.ok) (hr : m.right) (hp : m.plain) (hb : b.length ≤ 60000) (hs : s.length ≤ 60000) :
    (rBody (mz m.k m.f m.t) 0 (tbody m b s)).e2 = 0 ∧ (rBody (mz m.k m.f m.t) 0 (tbody m b s)).e = 0 ∧ (rBody (mz m.k m.f m.t) 0 (tbody m b s)).l = [] := by
  obtain ⟨⟨⟨p1, p2, p3, p4, p5, p6⟩, ⟨p7, p8⟩, p9, p10⟩, p11, p12⟩ := hp
  have hj := jput_len (b := b) (j := m.j) hm.j
  have hrr : m.r.ok := ⟨hm.rh, hm.rb⟩
  have hsl := sput_len (s := s) hrr
  have hmk : ∀ k : Int, (mz k m.f m.t).k = k := fun _ => rfl
  by_cases h1 : m.k = 1
  · have e : tbody m b s = num m.n ++ (num m.c ++ (num m.p ++ (m.h0 ++ (m.h1 ++ (num m.gk ++ (m.go ++ [])))))) := by simp [tbody, h1, nums]
    rw [e]
    unfold rBody
    rw [hmk, if_pos h1]
    simp only [rSgn, rUpto_num (a := m.n) (m := 1048576) ⟨p1, p2⟩ (by decide), rUpto_num (a := m.c) (m := 1125899906842624) ⟨p3, p4⟩ (by decide), rUpto_num (a := m.p) (m := 1125899906842624) ⟨p5, p6⟩ (by decide), rSum_sum hm.h0, rSum_sum hm.h1, rSum_sum hm.go, rUpto_num (a := m.gk) (m := 255) ⟨p7, p8⟩ (by decide)]
    exact ⟨by trivial, by trivial, by trivial⟩
  · by_cases h2 : m.k = 2
    · have e : tbody m b s = num m.m ++ (m.sec ++ (num m.gk ++ (m.go ++ []))) := by simp [tbody, h2]
      rw [e]
      unfold rBody
      rw [hmk, if_neg h1, if_pos h2]
      simp only [rSgn, rUpto_num (a := m.m) (m := 1048576) ⟨p9, p10⟩ (by decide), rSum_sum hm.sec, rSum_sum hm.go, rUpto_num (a := m.gk) (m := 255) ⟨p7, p8⟩ (by decide)]
      exact ⟨by trivial, by trivial, by trivial⟩
    · by_cases h3 : m.k = 3
      · have e : tbody m b s = num m.m ++ (m.sec ++ []) := by simp [tbody, h3]
        rw [e]
        unfold rBody
        rw [hmk, if_neg h1, if_neg h2, if_pos h3]
        simp only [rUpto_num (a := m.m) (m := 1048576) ⟨p9, p10⟩ (by decide), rSum_sum hm.sec]
        exact ⟨by trivial, by trivial, by trivial⟩
      · by_cases h4 : m.k = 4
        · have e : tbody m b s = num (jput m.j b).length ++ (jput m.j b ++ []) := by simp [tbody, h4]
          rw [e]
          unfold rBody
          rw [hmk, if_neg h1, if_neg h2, if_neg h3, if_pos h4]
          simp only [rText_text (s := jput m.j b) (m := 65536) (by omega) (by decide), jb_back (b := b) hm.j p11 (by omega)]
          exact ⟨by trivial, by trivial, by trivial⟩
        · have h5 : m.k = 5 := by have := hr.1; have := hr.2.1; omega
          have e : tbody m b s = num (sput m.r s).length ++ (sput m.r s ++ []) := by simp [tbody, h5]
          rw [e]
          unfold rBody
          rw [hmk, if_neg h1, if_neg h2, if_neg h3, if_neg h4, if_pos h5]
          simp only [rText_text (s := sput m.r s) (m := 65536) (by omega) (by decide), sgd_back (s := s) hrr p12 (by omega)]
          exact ⟨by trivial, by trivial, by trivial⟩
theorem tk_front {m : Msg} {b s : List Nat} (hr : m.right) : rUpto 5 0 (tput m b s) = (m.k, 0, num m.f ++ (num m.t ++ tbody m b s)) ∧ rUpto 255 0 (num m.f ++ (num m.t ++ tbody m b s)) = (m.f, 0, num m.t ++ tbody m b s) ∧ rUpto 255 0 (num m.t ++ tbody m b s) = (m.t, 0, tbody m b s) := by
  have e : tput m b s = num m.k ++ (num m.f ++ (num m.t ++ tbody m b s)) := by simp [tput, nums]
  obtain ⟨h1, h2, h3, h4, h5, h6, _⟩ := hr
  rw [e]
  exact ⟨rUpto_num ⟨by omega, h2⟩ (by decide) _, rUpto_num ⟨h3, h4⟩ (by decide) _, rUpto_num ⟨h5, h6⟩ (by decide) _⟩
theorem tk_back {m : Msg} {b s : List Nat} (hm : m.ok) (hr : m.right) (hp : m.plain) (hb : b.length ≤ 60000) (hs : s.length ≤ 60000) : (rMsg (tput m b s)).e = 0 := by
  obtain ⟨f1, f2, f3⟩ := tk_front (b := b) (s := s) hr
  obtain ⟨g1, g2, g3⟩ := body_back hm hr hp hb hs
  have kft := body_kft m.k m.f m.t 0 (tbody m b s)
  unfold rMsg
  simp only [f1, f2, f3, g1, g2, g3, rDone_nil]
  have hr' : (rBody (mz m.k m.f m.t) 0 (tbody m b s)).m.right := by unfold Msg.right; rw [kft.1, kft.2.1, kft.2.2]; exact hr
  rw [if_neg (by decide), if_neg (by decide), if_neg (fun h => h hr')]
theorem tk_kft {m : Msg} {b s : List Nat} (hr : m.right) (h : (rMsg (tput m b s)).e = 0) : (rMsg (tput m b s)).m.k = m.k ∧ (rMsg (tput m b s)).m.f = m.f ∧ (rMsg (tput m b s)).m.t = m.t := by
  obtain ⟨f1, f2, f3⟩ := tk_front (b := b) (s := s) hr
  obtain ⟨q, hq, _, _, _, hm, _⟩ := tk_yes h
  rw [hm, hq]
  simp only [f1, f2, f3]
  exact body_kft _ _ _ _ _
theorem rText_le (e : Int) (l : List Nat) : (rText 65536 e l).1.length ≤ 65536 := by
  have h := rText_len (m := 65536) (by decide) (e := e) (l := l) (s := (rText 65536 e l).1) (e1 := (rText 65536 e l).2.1) (l1 := (rText 65536 e l).2.2) rfl
  omega
theorem job_len (l : List Nat) : (rJob l).2.1.length ≤ 65536 := by
  unfold rJob
  simp only
  split
  · exact rText_le _ _
  · simp
theorem sgd_len (l : List Nat) : (rSgd l).2.1.length ≤ 65536 := by
  unfold rSgd
  simp only
  split
  · split
    · exact rText_le _ _
    · simp
  · simp
theorem body_len (m0 : Msg) (e : Int) (l : List Nat) : (rBody m0 e l).b.length ≤ 65536 ∧ (rBody m0 e l).s.length ≤ 65536 := by
  unfold rBody
  split
  · exact ⟨by simp, by simp⟩
  · split
    · exact ⟨by simp, by simp⟩
    · split
      · exact ⟨by simp, by simp⟩
      · split
        · exact ⟨job_len _, by simp⟩
        · split
          · exact ⟨by simp, sgd_len _⟩
          · exact ⟨by simp, by simp⟩
theorem tk_len (l : List Nat) : (rMsg l).b.length ≤ 65536 ∧ (rMsg l).s.length ≤ 65536 := by
  by_cases h : (rMsg l).e = 0
  · obtain ⟨q, hq, _, _, _, _, hb, hs⟩ := tk_yes h
    rw [hb, hs, hq]; exact body_len _ _ _
  · rw [tk_no h]; exact ⟨by simp, by simp⟩
structure Msg.byt (m : Msg) : Prop where
  h0 : Bytes m.h0
  h1 : Bytes m.h1
  go : Bytes m.go
  sec : Bytes m.sec
  j : Bytes m.j.h
  r : m.r.byt
theorem nums_by (l : List Int) : Bytes (nums l) := by
  intro x hx
  unfold nums at hx
  obtain ⟨a, _, h⟩ := List.mem_flatMap.1 hx
  exact num_lt a x h
theorem jput_by {j : Jb} {b : List Nat} (hj : Bytes j.h) (hb : Bytes b) : Bytes (jput j b) := by
  unfold jput
  exact app_lt (app_lt (app_lt (nums_by _) hj) (num_lt _)) hb
theorem tput_by {m : Msg} {b s : List Nat} (h : m.byt) (hb : Bytes b) (hs : Bytes s) : Bytes (tput m b s) := by
  unfold tput tbody
  refine app_lt (nums_by _) ?_
  split
  · exact app_lt (app_lt (app_lt (app_lt (nums_by _) h.h0) h.h1) (num_lt _)) h.go
  · split
    · exact app_lt (app_lt (app_lt (num_lt _) h.sec) (num_lt _)) h.go
    · split
      · exact app_lt (num_lt _) h.sec
      · split
        · exact app_lt (num_lt _) (jput_by h.j hb)
        · exact app_lt (num_lt _) (sput_lt h.r hs)
end Go.Proofs.Ytcgcjklpilbndaa

/- Arguments opened: bytes, sums, texts. It proves no statement by itself. -/
set_option linter.unusedSimpArgs false
set_option linter.unusedVariables false
namespace Go.Proofs.Ytcgcjklpilbndaa.E
open Go Go.RowKit Go.WideShapes Go.ChangeShapes Go.Deep
section
variable {H : Type} {enc : TypeId × Value → H} {P : Program} {w : World} {base : Nat} {spare : Nat → Bool} {held : Bool}
theorem okWide_array {r : Reach} {b0 : Nat} {t e : TypeId} {n : Nat} {v : Value} (ht : P.underlying t = some (.array n e)) (h : Value.okWide P w r b0 t v) : ∃ cs, v = .agg cs := by
  simp only [Value.okWide, ht] at h
  obtain ⟨cs, h1, _⟩ := h
  exact ⟨cs, h1⟩
theorem open_bytes {r : Reach} {b0 : Nat} {t e : TypeId} {v : Value} {d : DataW H} {p : List MemPlace} (ht : P.underlying t = some (.slice e)) (he : P.underlying e = some (.int .u8)) (hs : P.cellsOf e = 1) (hv : Value.okWide P w r b0 t v)
    (h : DataW.Trod enc P w base spare held t v d p) :
    ∃ (A : Option Addr) (n cap : Nat) (l : List Nat), v = .slice A n cap ∧ l.length = n ∧ n ≤ cap ∧ cap ≤ maxLen ∧ Bytes l ∧ Rd w 1 A n (bv l) := by
  obtain ⟨A, n, cap, l, h1, h2, h3, h4, h5, h6⟩ := open_row ht hs hv h (fun _ _ _ => opens_u8 he) (fun _ _ => rfl)
  exact ⟨A, n, cap, l, h1, h2, h3, h4, h5, by rw [bv_map] at h6; exact h6⟩
theorem open_sums {r : Reach} {b0 : Nat} {t e u : TypeId} {v : Value} {d : DataW H} {p : List MemPlace} (ht : P.underlying t = some (.slice e)) (he : P.underlying e = some (.array 32 u)) (hu : P.underlying u = some (.int .u8)) (hs : P.cellsOf u = 1) (hc : P.cellsOf e = 32) (hv : Value.okWide P w r b0 t v)
    (h : DataW.Trod enc P w base spare held t v d p) :
    ∃ (A : Option Addr) (n cap : Nat) (L : List (List Nat)), v = .slice A n cap ∧ L.length = n ∧ n ≤ cap ∧ cap ≤ maxLen ∧ All32 L ∧ (∀ l ∈ L, Bytes l) ∧ Rd w 32 A n (sv L) := by
  obtain ⟨A, n, cap, l, h1, h2, h3, h4, h5, h6⟩ := open_row (ok := fun l => l.length = 32 ∧ Bytes l) ht hc hv h (fun _ _ _ => opens_sum he hu hs hc) (fun _ h => by simpa using h.1)
  exact ⟨A, n, cap, l, h1, h2, h3, h4, fun x hx => (h5 x hx).1, fun x hx => (h5 x hx).2, h6⟩
theorem open_sum {r : Reach} {b0 : Nat} {t u : TypeId} {v : Value} {d : DataW H} {p : List MemPlace} (he : P.underlying t = some (.array 32 u)) (hu : P.underlying u = some (.int .u8)) (hs : P.cellsOf u = 1) (hc : P.cellsOf t = 32) (hv : Value.okWide P w r b0 t v)
    (h : DataW.Trod enc P w base spare held t v d p) : ∃ s : List Nat, v = .agg (bv s).toArray ∧ s.length = 32 ∧ Bytes s := by
  obtain ⟨s, h1, h2⟩ := open_val (r := r) (b0 := b0) (okWide_array he hv) h (opens_sum he hu hs hc)
  exact ⟨s, h1, h2.1, h2.2⟩
end
end Go.Proofs.Ytcgcjklpilbndaa.E

/- Arguments opened: slices in structs, structs. It proves no statement by itself. -/
set_option linter.unusedSimpArgs false
set_option linter.unusedVariables false
namespace Go.Proofs.Ytcgcjklpilbndaa.E
open Go Go.RowKit Go.WideShapes Go.ChangeShapes Go.Deep
/-- a slice and what it shows -/
structure Sl (α : Type) where
  A : Option Addr
  n : Nat
  c : Nat
  xs : List α
def slC {α : Type} (x : Sl α) : List Value := [.slice x.A x.n x.c]
section
variable {H : Type} {enc : TypeId × Value → H} {P : Program} {w : World} {base : Nat} {spare : Nat → Bool} {held : Bool} {α : Type}
def SlOk (w : World) (s : Nat) (c : α → List Value) (ok : α → Prop) (x : Sl α) : Prop := x.xs.length = x.n ∧ x.n ≤ x.c ∧ x.c ≤ maxLen ∧ (∀ y ∈ x.xs, ok y) ∧ Rd w s x.A x.n (x.xs.flatMap c)
theorem opens_slice {t e : TypeId} {s : Nat} {c : α → List Value} {ok : α → Prop} (ht : P.underlying t = some (.slice e)) (hs : P.cellsOf e = s) (ho : ∀ base spare held, Opens enc P w base spare held e c ok) (hl : ∀ x, ok x → (c x).length = s) :
    Opens enc P w base spare held t slC (SlOk w s c ok) := by
  intro fuel cs y hf
  rcases open_slice ht hf with ⟨e0, _⟩ | ⟨a, n, cap, m, k, D, Pl, e0, hb, h1, h2, hm, hx, hi⟩
  · exact ⟨⟨none, 0, 0, []⟩, e0, rfl, Nat.le_refl _, Nat.zero_le _, by simp, Rd.nil _ _ _⟩
  · have hle : n ≤ m := by rw [hm]; split <;> omega
    have key : ∀ n', n' ≤ n → ∃ xs : List α, xs.length = n' ∧ (∀ x ∈ xs, ok x) ∧ ∀ i x, xs[i]? = some x → ∀ j u, (c x)[j]? = some u → w.cell? (a.add (i * s + j)) = some u := by
      intro n'
      induction n' with
      | zero => intro _; exact ⟨[], rfl, by simp, by simp⟩
      | succ n' ih =>
        intro hn'
        obtain ⟨xs, e1, e2, e3⟩ := ih (by omega)
        obtain ⟨cs', hc', ht'⟩ := hi n' (by omega)
        rw [hs] at hc'
        obtain ⟨_, hcl, hat⟩ := World.cells?_some hc'
        obtain ⟨x, rfl, hox⟩ := ho _ _ _ _ _ _ ht'
        refine ⟨xs ++ [x], by simp [e1], fun y hy => ?_, fun i y hy j u hu => ?_⟩
        · rcases List.mem_append.1 hy with hy | hy
          · exact e2 y hy
          · rw [List.mem_singleton.1 hy]; exact hox
        · rcases Nat.lt_or_ge i n' with hi' | hi'
          · rw [List.getElem?_append_left (by omega)] at hy
            exact e3 i y hy j u hu
          · rw [List.getElem?_append_right (by omega)] at hy
            have hi0 : i - xs.length = 0 := by
              have := (List.getElem?_eq_some_iff.1 hy).1
              simp at this
              omega
            rw [hi0] at hy
            simp at hy
            subst hy
            have hj := (List.getElem?_eq_some_iff.1 hu).1
            have := hat j (by omega)
            rw [show i = n' by omega, ← E.add_add, this]
            exact hu
    obtain ⟨xs, e1, e2, e3⟩ := key n (Nat.le_refl _)
    refine ⟨⟨some a, n, cap, xs⟩, e0, e1, h1, h2, e2, ?_, fun j u hu => ⟨a, rfl, ?_⟩⟩
    · show (xs.flatMap c).length = n * s
      rw [flatMap_len (s := s) fun x hx => hl x (e2 x hx), e1]
    · have hj := (List.getElem?_eq_some_iff.1 hu).1
      change j < (xs.flatMap c).length at hj
      rw [flatMap_len (s := s) fun x hx => hl x (e2 x hx), e1] at hj
      have hs0 : 0 < s := by
        rcases Nat.eq_zero_or_pos s with h0 | h0
        · subst h0; omega
        · exact h0
      have hi' : j / s < n := (Nat.div_lt_iff_lt_mul hs0).2 hj
      have hx : xs[j / s]? = some (xs[j / s]'(by omega)) := List.getElem?_eq_getElem (by omega)
      have hjm : j % s < s := Nat.mod_lt _ hs0
      have hdm : j / s * s + j % s = j := by rw [Nat.mul_comm]; exact Nat.div_add_mod j s
      have := flatMap_at (s := s) (c := c) (fun x hx => hl x (e2 x hx)) hx hjm
      rw [hdm] at this
      change (xs.flatMap c)[j]? = some u at hu
      rw [this] at hu
      have h3 := e3 _ _ hx _ _ hu
      rwa [hdm] at h3
theorem opens_bytes {t e : TypeId} (ht : P.underlying t = some (.slice e)) (he : P.underlying e = some (.int .u8)) (hs : P.cellsOf e = 1) :
    Opens enc P w base spare held t slC (fun x : Sl Nat => x.xs.length = x.n ∧ x.n ≤ x.c ∧ x.c ≤ maxLen ∧ Bytes x.xs ∧ Rd w 1 x.A x.n (bv x.xs)) := by
  intro fuel cs y hf
  obtain ⟨x, e0, h1, h2, h3, h4, h5⟩ := opens_slice ht hs (fun _ _ _ => opens_u8 he) (fun _ _ => rfl) fuel cs y hf
  exact ⟨x, e0, h1, h2, h3, h4, by rw [bv_map] at h5; exact h5⟩
/-- the fields lie one behind the other -/
def contig (P : Program) : Nat → List Field → Nat → Bool
  | o, [], m => Nat.beq o m
  | o, f :: fs, m => Nat.beq f.offset o && contig P (o + P.cellsOf f.type) fs m
theorem contig_cut {m : Nat} {cs : List Value} (hl : cs.length = m) : ∀ (fs : List Field) (o : Nat), contig P o fs m = true → cs.drop o = (fs.map fun f => (cs.drop f.offset).take (P.cellsOf f.type)).flatten
  | [], o, h => by
    simp only [contig] at h
    have := Nat.eq_of_beq_eq_true h
    rw [List.map_nil, List.flatten_nil, List.drop_of_length_le (by omega)]
  | f :: fs, o, h => by
    simp only [contig, Bool.and_eq_true] at h
    have e1 := Nat.eq_of_beq_eq_true h.1
    rw [List.map_cons, List.flatten_cons, ← contig_cut hl fs _ h.2, e1, ← List.drop_drop, List.take_append_drop]
theorem trod_parts {t : TypeId} {fs : Array Field} {fuel : Nat} {cs : List Value} {y : DataW H × List MemPlace} (ht : P.underlying t = some (.struct fs)) (hc : contig P 0 fs.toList (P.cellsOf t) = true) (h : DataW.trod enc P w base spare held fuel t cs = some y) :
    cs = (fs.toList.map fun f => (cs.drop f.offset).take (P.cellsOf f.type)).flatten ∧ ∃ n, ∀ (i : Nat) (f : Field), fs[i]? = some f → ∃ z, DataW.trod enc P w base spare held n f.type ((cs.drop f.offset).take (P.cellsOf f.type)) = some z := by
  obtain ⟨xs, n, _, _, hlen, hxl, hf⟩ := DataW.trod_struct ht h
  refine ⟨?_, n, fun i f hi => ?_⟩
  · have := contig_cut (P := P) hlen fs.toList 0 hc
    rwa [List.drop_zero] at this
  · have h1 := hf i f hi
    have hlt : i < xs.length := by rw [hxl]; exact (Array.getElem?_eq_some_iff.1 hi).1
    rw [List.getElem?_eq_getElem hlt] at h1
    exact ⟨_, h1⟩
end
end Go.Proofs.Ytcgcjklpilbndaa.E

/- Receipts as arguments. It proves no statement by itself. -/
set_option linter.unusedSimpArgs false
set_option linter.unusedVariables false
namespace Go.Proofs.Ytcgcjklpilbndaa
open Go Go.RowKit Go.WideShapes Go.ChangeShapes Go.Deep E
section
variable {H : Type} {enc : TypeId × Value → H} {w : World} {base : Nat} {spare : Nat → Bool} {held : Bool}
theorem opensSum : Opens enc Try.prog w base spare held 44 bv (fun l => l.length = 32 ∧ Bytes l) := opens_sum Try.underlying44 Try.underlying5 (by kernel_rfl) (by kernel_rfl)
theorem opensInt : Opens enc Try.prog w base spare held 3 (fun x : Int => [Value.int .i64 x]) (fun x => -9223372036854775808 ≤ x ∧ x ≤ 9223372036854775807) := opens_i64 Try.underlying3
theorem opensBytes : Opens enc Try.prog w base spare held 47 slC (fun x : Sl Nat => x.xs.length = x.n ∧ x.n ≤ x.c ∧ x.c ≤ maxLen ∧ Bytes x.xs ∧ Rd w 1 x.A x.n (bv x.xs)) := opens_bytes Try.underlying47 Try.underlying5 (by kernel_rfl)
def rcpV (r : Rcp) : List Value := cat (rcpC r)
theorem opensRcp : Opens enc Try.prog w base spare held 46 rcpV (fun r => r.ok ∧ r.byt) := by
  intro fuel cs y h
  obtain ⟨hcs, n, hf⟩ := trod_parts Try.underlying46 (by kernel_rfl) h
  obtain ⟨y0, g0⟩ := hf 0 _ rfl
  obtain ⟨y1, g1⟩ := hf 1 _ rfl
  obtain ⟨y2, g2⟩ := hf 2 _ rfl
  obtain ⟨y3, g3⟩ := hf 3 _ rfl
  obtain ⟨y4, g4⟩ := hf 4 _ rfl
  obtain ⟨a0, e0, _⟩ := opensInt _ _ _ g0
  obtain ⟨a1, e1, _⟩ := opensInt _ _ _ g1
  obtain ⟨a2, e2, _⟩ := opensInt _ _ _ g2
  obtain ⟨a3, e3, h3⟩ := opensSum _ _ _ g3
  obtain ⟨a4, e4, h4⟩ := opensSum _ _ _ g4
  exact ⟨⟨a0, a1, a2, a3, a4⟩, hcs.trans (congrArg List.flatten (congr (congrArg List.cons e0) (congr (congrArg List.cons e1) (congr (congrArg List.cons e2) (congr (congrArg List.cons e3) (congr (congrArg List.cons e4) rfl)))))), ⟨h3.1, h4.1⟩, h3.2, h4.2⟩
theorem opensSgd : Opens enc Try.prog w base spare held 54 (fun x : Rcp × Sl Nat => cat (sgdC x.1 x.2.A x.2.n x.2.c)) (fun x => (x.1.ok ∧ x.1.byt) ∧ x.2.xs.length = x.2.n ∧ x.2.n ≤ x.2.c ∧ x.2.c ≤ maxLen ∧ Bytes x.2.xs ∧ Rd w 1 x.2.A x.2.n (bv x.2.xs)) := by
  intro fuel cs y h
  obtain ⟨hcs, n, hf⟩ := trod_parts Try.underlying54 (by kernel_rfl) h
  obtain ⟨y0, g0⟩ := hf 0 _ rfl
  obtain ⟨y1, g1⟩ := hf 1 _ rfl
  obtain ⟨a0, e0, h0⟩ := opensRcp _ _ _ g0
  obtain ⟨a1, e1, h1⟩ := opensBytes _ _ _ g1
  have h2 : cs = [rcpV a0, slC a1].flatten := hcs.trans (congrArg List.flatten (congr (congrArg List.cons e0) (congr (congrArg List.cons e1) rfl)))
  exact ⟨⟨a0, a1⟩, h2.trans (by simp [rcpV, rcpC, sgdC, slC, cat]), h0, h1⟩
end
end Go.Proofs.Ytcgcjklpilbndaa

/- Messages as arguments. It proves no statement by itself. -/
set_option linter.unusedSimpArgs false
set_option linter.unusedVariables false
namespace Go.Proofs.Ytcgcjklpilbndaa
open Go Go.RowKit Go.WideShapes Go.ChangeShapes Go.Deep E
section
variable {H : Type} {enc : TypeId × Value → H} {w : World} {base : Nat} {spare : Nat → Bool} {held : Bool}
theorem opensInt64 : Opens enc Try.prog w base spare held 2 (fun x : Int => [Value.int .i64 x]) (fun x => -9223372036854775808 ≤ x ∧ x ≤ 9223372036854775807) := opens_i64 Try.underlying2
theorem opensSums2 : Opens enc Try.prog w base spare held 76 (fun x : List Nat × List Nat => bv x.1 ++ bv x.2) (fun x => (x.1.length = 32 ∧ Bytes x.1) ∧ x.2.length = 32 ∧ Bytes x.2) := by
  intro fuel cs y h
  obtain ⟨xs, e, h1, h2⟩ := opens_arr (s := 32) (n := 2) Try.underlying76 (by kernel_rfl) (by kernel_rfl) (fun _ _ _ => opensSum) fuel cs y h
  match xs, h1 with
  | [a, b], _ => exact ⟨(a, b), by rw [e]; simp, h2 a (by simp), h2 b (by simp)⟩
theorem opensState : Opens enc Try.prog w base spare held 78 (fun x : (Int × Int × Int) × (List Nat × List Nat) => cat [[.int .i64 x.1.1], [.int .i64 x.1.2.1], [.int .i64 x.1.2.2], bv x.2.1, bv x.2.2]) (fun x => (x.2.1.length = 32 ∧ Bytes x.2.1) ∧ x.2.2.length = 32 ∧ Bytes x.2.2) := by
  intro fuel cs y h
  obtain ⟨hcs, n, hf⟩ := trod_parts Try.underlying78 (by kernel_rfl) h
  obtain ⟨y0, g0⟩ := hf 0 _ rfl
  obtain ⟨y1, g1⟩ := hf 1 _ rfl
  obtain ⟨y2, g2⟩ := hf 2 _ rfl
  obtain ⟨y3, g3⟩ := hf 3 _ rfl
  obtain ⟨a0, e0, _⟩ := opensInt _ _ _ g0
  obtain ⟨a1, e1, _⟩ := opensInt64 _ _ _ g1
  obtain ⟨a2, e2, _⟩ := opensInt64 _ _ _ g2
  obtain ⟨a3, e3, h3⟩ := opensSums2 _ _ _ g3
  have h2 : cs = [[Value.int .i64 a0], [Value.int .i64 a1], [Value.int .i64 a2], bv a3.1 ++ bv a3.2].flatten := hcs.trans (congrArg List.flatten (congr (congrArg List.cons e0) (congr (congrArg List.cons e1) (congr (congrArg List.cons e2) (congr (congrArg List.cons e3) rfl)))))
  exact ⟨((a0, a1, a2), a3), h2.trans (by simp [cat]), h3⟩
theorem opensSign : Opens enc Try.prog w base spare held 80 (fun x : Int × List Nat => cat [[.int .i64 x.1], bv x.2]) (fun x => x.2.length = 32 ∧ Bytes x.2) := by
  intro fuel cs y h
  obtain ⟨hcs, n, hf⟩ := trod_parts Try.underlying80 (by kernel_rfl) h
  obtain ⟨y0, g0⟩ := hf 0 _ rfl
  obtain ⟨y1, g1⟩ := hf 1 _ rfl
  obtain ⟨a0, e0, _⟩ := opensInt _ _ _ g0
  obtain ⟨a1, e1, h1⟩ := opensSum _ _ _ g1
  exact ⟨(a0, a1), hcs.trans (congrArg List.flatten (congr (congrArg List.cons e0) (congr (congrArg List.cons e1) rfl))), h1⟩
theorem opensJob : Opens enc Try.prog w base spare held 82 (fun x : Jb × Sl Nat => cat (jbC x.1 x.2.A x.2.n x.2.c)) (fun x => (x.1.h.length = 32 ∧ Bytes x.1.h) ∧ x.2.xs.length = x.2.n ∧ x.2.n ≤ x.2.c ∧ x.2.c ≤ maxLen ∧ Bytes x.2.xs ∧ Rd w 1 x.2.A x.2.n (bv x.2.xs)) := by
  intro fuel cs y h
  obtain ⟨hcs, n, hf⟩ := trod_parts Try.underlying82 (by kernel_rfl) h
  obtain ⟨y0, g0⟩ := hf 0 _ rfl
  obtain ⟨y1, g1⟩ := hf 1 _ rfl
  obtain ⟨y2, g2⟩ := hf 2 _ rfl
  obtain ⟨y3, g3⟩ := hf 3 _ rfl
  obtain ⟨a0, e0, _⟩ := opensInt _ _ _ g0
  obtain ⟨a1, e1, _⟩ := opensInt _ _ _ g1
  obtain ⟨a2, e2, h2⟩ := opensSum _ _ _ g2
  obtain ⟨a3, e3, h3⟩ := opensBytes _ _ _ g3
  exact ⟨(⟨a0, a1, a2⟩, a3), hcs.trans (congrArg List.flatten (congr (congrArg List.cons e0) (congr (congrArg List.cons e1) (congr (congrArg List.cons e2) (congr (congrArg List.cons e3) rfl))))), h2, h3⟩
/-- a message that came in, its blob and its signature -/
structure MsgV where
  m : Msg
  (b s : Sl Nat)
def msgV (x : MsgV) : List Value := cat (msgC x.m x.b.A x.b.n x.b.c x.s.A x.s.n x.s.c)
def SlB (w : World) (x : Sl Nat) : Prop := x.xs.length = x.n ∧ x.n ≤ x.c ∧ x.c ≤ maxLen ∧ Bytes x.xs ∧ Rd w 1 x.A x.n (bv x.xs)
def MsgOk (w : World) (x : MsgV) : Prop := x.m.ok ∧ x.m.byt ∧ SlB w x.b ∧ SlB w x.s
theorem opensMsg : Opens enc Try.prog w base spare held 84 msgV (MsgOk w) := by
  intro fuel cs y h
  obtain ⟨hcs, n, hf⟩ := trod_parts Try.underlying84 (by kernel_rfl) h
  obtain ⟨y0, g0⟩ := hf 0 _ rfl
  obtain ⟨y1, g1⟩ := hf 1 _ rfl
  obtain ⟨y2, g2⟩ := hf 2 _ rfl
  obtain ⟨y3, g3⟩ := hf 3 _ rfl
  obtain ⟨y4, g4⟩ := hf 4 _ rfl
  obtain ⟨y5, g5⟩ := hf 5 _ rfl
  obtain ⟨y6, g6⟩ := hf 6 _ rfl
  obtain ⟨y7, g7⟩ := hf 7 _ rfl
  obtain ⟨y8, g8⟩ := hf 8 _ rfl
  obtain ⟨a0, e0, _⟩ := opensInt _ _ _ g0
  obtain ⟨a1, e1, _⟩ := opensInt _ _ _ g1
  obtain ⟨a2, e2, _⟩ := opensInt _ _ _ g2
  obtain ⟨a3, e3, h3⟩ := opensState _ _ _ g3
  obtain ⟨a4, e4, h4⟩ := opensSign _ _ _ g4
  obtain ⟨a5, e5, _⟩ := opensInt _ _ _ g5
  obtain ⟨a6, e6, h6⟩ := opensSum _ _ _ g6
  obtain ⟨a7, e7, h7⟩ := opensJob _ _ _ g7
  obtain ⟨a8, e8, h8⟩ := opensSgd _ _ _ g8
  have h2 : cs = [[Value.int .i64 a0], [Value.int .i64 a1], [Value.int .i64 a2], cat [[.int .i64 a3.1.1], [.int .i64 a3.1.2.1], [.int .i64 a3.1.2.2], bv a3.2.1, bv a3.2.2], cat [[.int .i64 a4.1], bv a4.2], [Value.int .i64 a5], bv a6, cat (jbC a7.1 a7.2.A a7.2.n a7.2.c), cat (sgdC a8.1 a8.2.A a8.2.n a8.2.c)].flatten :=
    hcs.trans (congrArg List.flatten (congr (congrArg List.cons e0) (congr (congrArg List.cons e1) (congr (congrArg List.cons e2) (congr (congrArg List.cons e3) (congr (congrArg List.cons e4) (congr (congrArg List.cons e5) (congr (congrArg List.cons e6) (congr (congrArg List.cons e7) (congr (congrArg List.cons e8) rfl))))))))))
  exact ⟨⟨⟨a0, a1, a2, a3.1.1, a3.1.2.1, a3.1.2.2, a3.2.1, a3.2.2, a4.1, a4.2, a5, a6, a7.1, a8.1⟩, a7.2, a8.2⟩, h2.trans (by simp [msgV, msgC, jbC, sgdC, cat]), ⟨h3.1.1, h3.2.1, h4.1, h6.1, h7.1.1, h8.1.1.1, h8.1.1.2⟩, ⟨h3.1.2, h3.2.2, h4.2, h6.2, h7.1.2, h8.1.2⟩, h7.2, h8.2⟩
end
end Go.Proofs.Ytcgcjklpilbndaa

/- Literal rows of structs, rows of bools. It proves no statement by itself. -/
set_option linter.unusedSimpArgs false
set_option linter.unusedVariables false
namespace Go.Proofs.Ytcgcjklpilbndaa.E
open Go Go.RowKit
def flatV : List (List Value) → List Value
  | [] => []
  | [x] => x
  | x :: y :: r => x ++ flatV (y :: r)
theorem flatV_eq : ∀ E : List (List Value), flatV E = E.flatten
  | [] => rfl
  | [x] => by simp [flatV]
  | x :: y :: r => by rw [flatV, flatV_eq (y :: r)]; rfl
def bbv (l : List Bool) : List Value := l.map Value.bool
@[simp] theorem bbv_length (l : List Bool) : (bbv l).length = l.length := by simp [bbv]
theorem bbv_one (l : List Bool) : ∀ u ∈ bbv l, u.oneCell' = true := by
  intro u hu
  obtain ⟨x, _, rfl⟩ := List.mem_map.1 hu
  rfl
theorem bbv_get {l : List Bool} {i : Nat} (h : i < l.length) : (bbv l)[i]? = some (.bool (l.getD i false)) := by
  simp [bbv, List.getD_eq_getElem?_getD, h]
theorem bbv_set (l : List Bool) (i : Nat) (x : Bool) : (bbv l).set i (.bool x) = bbv (l.set i x) := by simp [bbv, List.map_set]
theorem iv_setL (l : List Int) (i : Nat) (x : Int) : (iv l).set i (.int .i64 x) = iv (l.set i x) := by simp [iv, List.map_set]
section
variable {P : Program} {ρ : Operand → Value} {d : Option Tmp} {t ty : TypeId} {ps : String} {af : Array Edge} {g : Option (Nat × Bool)} {w w0 : World} {ex : List Nat} {ks : List (Option Nat)} {pp : List (Option Obj → Prop)}
theorem d_litV {e : TypeId} {n size : Nat} {parts : List (Nat × Operand)} {E : List (List Value)} {z : Value} (S : St w0 w ex ks pp) (hu : P.underlying t = some (.slice e)) (hs : Sz P e size) (hz : Zv P e z) (hsz : z.cells.size = size) (hpos : 0 < size)
    (hp : parts.map (fun q => (q.1, ρ q.2)) = (List.range' 0 n).zip (E.map fun l => Value.agg l.toArray)) (hn : E.length = n) (hE : ∀ l ∈ E, l.length = size) (hlim : n * size ≤ 16777216) :
    Does P ρ { dst := d, op := .buildSlice t n parts.toArray, type := ty, pos := ps, after := af, guard := g } w
      fun v w' => ∃ b, v = .slice (at_ (some b)) n n ∧ St w0 w' ex (some b :: ks) (Rw e size n n (flatV E) :: pp) := by
  have h := d_lit (P := P) (ρ := ρ) (d := d) (ty := ty) (ps := ps) (af := af) (g := g) S hu hs hz hsz hpos hp (by simpa using hn) (fun v h => by
    obtain ⟨l, hl, rfl⟩ := List.mem_map.1 h
    simp [Value.cells, hE l hl]) hlim
  have e1 : (E.map fun l => Value.agg l.toArray).flatMap (fun v => v.cells.toList) = flatV E := by
    rw [flatV_eq]
    clear hp hn hE h
    induction E with
    | nil => rfl
    | cons a E ih => rw [List.map_cons, List.flatMap_cons, ih, List.flatten_cons]; rfl
  rwa [e1] at h
end
end Go.Proofs.Ytcgcjklpilbndaa.E

/- Letters of a net, as lists. It proves no statement by itself. -/
set_option linter.unusedSimpArgs false
set_option linter.unusedVariables false
namespace Go.Proofs.Ytcgcjklpilbndaa
open Go Go.RowKit E
/-- a letter, as it lies -/
structure Lt where
  to : Int
  b : Sl Nat
def ltC (x : Lt) : List (List Value) := [[.int .i64 x.to], [.slice x.b.A x.b.n x.b.c]]
def ltV (x : Lt) : List Value := cat (ltC x)
theorem ltV_len (x : Lt) : (ltV x).length = 2 := rfl
theorem one_ltV (x : Lt) : One (ltV x) := by
  intro v hv; simp [ltV, ltC, cat] at hv; rcases hv with rfl | rfl <;> rfl
theorem lts_one (l : List Lt) : One (l.flatMap ltV) := by
  intro v hv
  obtain ⟨x, _, hx⟩ := List.mem_flatMap.1 hv
  exact one_ltV x v hx
/-- one letter more, if it may be -/
def nX (X : List Lt) (x : Lt) (may : Bool) : List Lt := if may = true ∧ X.length < 64 then X ++ [x] else X
def nL (X : List Lt) (lost : Int) (may : Bool) : Int := if may = true ∧ X.length < 64 then lost else lost + 1
theorem nX_le {X : List Lt} {x : Lt} {may : Bool} (h : X.length ≤ 64) : (nX X x may).length ≤ 64 := by
  unfold nX; split
  · rw [List.length_append, List.length_singleton]; omega
  · exact h
theorem nX_yes {X : List Lt} {x : Lt} {may : Bool} (h : may = true) (hX : X.length < 64) : nX X x may = X ++ [x] := if_pos ⟨h, hX⟩
theorem nL_yes {X : List Lt} {lost : Int} {may : Bool} (h : may = true) (hX : X.length < 64) : nL X lost may = lost := if_pos ⟨h, hX⟩
theorem no_put {X : List Lt} {may : Bool} (h : may = false ∨ 64 ≤ X.length) : ¬ (may = true ∧ X.length < 64) := by
  rintro ⟨h1, h2⟩
  rcases h with h | h
  · rw [h1] at h; cases h
  · omega
theorem nX_no {X : List Lt} {x : Lt} {may : Bool} (h : may = false ∨ 64 ≤ X.length) : nX X x may = X := if_neg (no_put h)
theorem nL_no {X : List Lt} {lost : Int} {may : Bool} (h : may = false ∨ 64 ≤ X.length) : nL X lost may = lost + 1 := if_neg (no_put h)
abbrev netE (k : Option Nat) (c : Nat) (X : List Lt) (lost : Int) : Option Obj → Prop := Ex (cat [[.slice (at_ k) X.length c], [.int .i64 lost]]).toArray 72
abbrev plnE (k : Option Nat) (c : Nat) (X : List Lt) (lost : Int) : Option Obj → Prop := Ex (cat [[.slice (at_ k) X.length c], [.int .i64 lost]]).toArray 75
abbrev netR (c : Nat) (X : List Lt) : Option Obj → Prop := Rw 90 2 X.length c (X.flatMap ltV)
theorem some_at {α : Type} {xs : List α} {g n : Nat} (hl : xs.length = n) (h : g < n) : ∃ y, xs[g]? = some y ∧ y ∈ xs := by
  have hg : g < xs.length := by omega
  exact ⟨xs[g], List.getElem?_eq_getElem hg, List.getElem_mem hg⟩
end Go.Proofs.Ytcgcjklpilbndaa

/- Slices that are nil or not. It proves no statement by itself. -/
set_option linter.unusedSimpArgs false
set_option linter.unusedVariables false
namespace Go.Proofs.Ytcgcjklpilbndaa.E
open Go Go.RowKit
section
variable {P : Program} {ρ : Operand → Value} {d : Option Tmp} {x y : Operand} {t ty yt : TypeId} {ps : String} {af : Array Edge} {g : Option (Nat × Bool)} {w w0 : World} {ex : List Nat} {ks : List (Option Nat)} {pp : List (Option Obj → Prop)}
theorem equalSl (d : Nat) (w : World) {u : Option Addr} {n c : Nat} {e : TypeId} (ht : P.underlying t = some (.slice e)) : (Op.equalIn (d + 1) t (.slice u n c) (.slice none 0 0)).run P w = .ok u.isNone w := by
  cases u <;> simp [Op.equalIn, run_underlying ht]
theorem e_eqlSl {u : Option Addr} {n c : Nat} {e : TypeId} (hx : ρ x = .slice u n c) (hy : ρ y = .slice none 0 0) (ht : P.underlying t = some (.slice e)) : (execOp ρ { dst := d, op := .binOp .eql t x y yt, type := ty, pos := ps, after := af, guard := g }).run P w = .ok (.value (.bool u.isNone)) w :=
  run_bin (fun w => by rw [hx, hy]; exact bin_eql (equalSl 9999 w ht) fun op h => by subst h; rfl) (fun w => by rw [hx, hy]; rfl)
theorem d_makeBV {e : TypeId} {bytes : Nat} (S : St w0 w ex ks pp) (ht : P.underlying t = some (.slice e)) (he : El P e 1 bytes) (hz0 : Zv P e (.int .u8 0)) (n : Nat) {zi : Int} (hn : zi = (n : Int)) {kl kc : IntKind} (hx : ρ x = .int kl zi) (hy : ρ y = .int kc zi) (hb : bytes * n ≤ 281474976710656) (h63 : n ≤ maxLen) :
    Does P ρ { dst := d, op := .makeSlice t x y, type := ty, pos := ps, after := af, guard := g } w fun v w' => ∃ b, v = .slice (at_ (some b)) n n ∧ St w0 w' ex (some b :: ks) (Rw e 1 n n (bv (List.replicate n 0)) :: pp) := by
  subst hn
  have h : List.replicate n (Value.int .u8 0) = bv (List.replicate n 0) := by unfold bv; rw [List.map_replicate]; rfl
  rw [← h]
  exact d_make1 S ht he hz0 rfl n hx hy hb h63
end
end Go.Proofs.Ytcgcjklpilbndaa.E

/- Bytes cloned, letters put, walked. It proves no statement by itself. -/
set_option linter.unusedSimpArgs false
set_option linter.unusedVariables false
set_option maxRecDepth 100000
set_option maxHeartbeats 1000000
namespace Go.Proofs.Ytcgcjklpilbndaa
open Go Go.RowKit E
attribute [local irreducible] wpList seqH treeH
theorem nil_of_none {w : World} {A : Option Addr} {l : List Nat} (R : Rd w 1 A l.length (bv l)) (h : A.isNone = true) : l = [] := by
  cases l with
  | nil => rfl
  | cons a r =>
    obtain ⟨ad, e⟩ := R.some_ (by rw [bv_length]; simp)
    rw [e] at h; cases h
theorem put_flat (X : List Lt) (x : Lt) : (X ++ [x]).flatMap ltV = X.flatMap ltV ++ flatV [cat (ltC x)] := by simp [flatV, ltV]
theorem put_len (X : List Lt) (x : Lt) : (X ++ [x]).length = X.length + 1 := by simp
theorem sl_clone (w0 : World) (A : Option Addr) (c : Nat) (l : List Nat) (R : Rd w0 1 A l.length (bv l)) (hl : l.length ≤ 1000000000) :
    Ret Try.prog 64 [.slice A l.length c] w0 fun v w' => ∃ k c, v = .slice (at_ k) l.length c ∧ St w0 w' [] [k] [Rw 5 1 l.length c (bv l)] := by
  refine enter Try.func64 rfl Try.ntmps64 (Nat.le_of_ble_eq_true rfl) ?_
  have S := St.init w0
  refine s_seq (s_plain ?_)
  refine p_val (e_assign (v := .slice _ _ _) rfl) rfl ?_
  refine p_nil (x_then (s_seq (s_seq (s_plain ?_))))
  refine p_val (e_move (v := .slice _ _ _) rfl) rfl ?_
  refine p_val (e_eqlSl rfl rfl Try.underlying47) rfl ?_
  refine p_nil (x_then ?_)
  refine s_condb rfl (fun hc4 => ?_) (fun hc4 => ?_)
  · refine s_seq (s_plain ?_)
    refine p_val (e_assign (v := .slice _ _ _) rfl) rfl ?_
    refine p_nil (x_then (s_ret (x_then_ret ?_)))
    exact post1 (v := .slice _ _ _) Try.results64 rfl (by have e : l = [] := nil_of_none R hc4; subst e; exact ⟨none, 0, rfl, S.addNil 5 1⟩)
  · refine s_skip (x_then (s_seq (s_plain ?_)))
    refine p_does (d_lit1 S Try.underlying47 sz5 zv5 rfl (vs := []) rfl rfl rfl (by decide)) rfl ?_
    rintro _ w ⟨b5, rfl, S⟩
    refine p_val (e_move (v := .slice _ _ _) rfl) rfl ?_
    refine p_does (d_append S 0 rfl rfl Try.underlying47 el5 rfl rfl (S.rdOld R rfl) (by first | exact bv_one _ | exact sv_one _ | exact iv_one _ | with_reducible assumption | (refine One.mem ?_; repeat (first | exact One.bv _ | exact One.sv _ | exact One.iv _ | exact One.nil | exact One.cat0 | refine One.cat1 ?_ ?_ | refine One.cons rfl ?_ | refine One.append ?_ ?_))) (by first | omega | (simp only [List.length_append, List.length_cons, List.length_nil, bv_length]; omega) | (simp [cat]; omega)) (by unfold maxLen; first | omega | (simp only [List.length_append, List.length_cons, List.length_nil, bv_length]; omega))) rfl ?_
    rintro _ w ⟨k7, c7, rfl, S⟩
    refine p_val (e_assign (v := .slice _ _ _) rfl) rfl ?_
    refine p_nil (x_then (s_ret ?_))
    exact post1 (v := .slice _ _ _) Try.results64 rfl (⟨k7, c7, by simp, by simpa using S.pk [0] rfl⟩)
theorem nt_put (w0 : World) (hb : Nat) (k : Option Nat) (c : Nat) (X : List Lt) (lost : Int) (x : Lt) (may : Bool) (S0 : St w0 w0 (exOf [some hb, k]) [some hb, k] [netE k c X lost, netR c X]) (hX : X.length ≤ 64) (h0 : 0 ≤ lost) (h1 : lost ≤ 1000000000) :
    Ret Try.prog 65 [.pointer (some ⟨hb, 0, none⟩), .agg (cat (ltC x)).toArray, .bool may] w0 fun v w' => v = .tuple #[] ∧ ∃ k' c', St w0 w' (exOf [some hb, k]) [some hb, k'] [netE k' c' (nX X x may) (nL X lost may), netR c' (nX X x may)] := by
  refine enter Try.func65 rfl Try.ntmps65 (Nat.le_of_ble_eq_true rfl) ?_
  have S := S0
  refine s_seq (s_plain ?_)
  refine p_does (d_boxA S rfl) rfl ?_
  rintro _ w ⟨b4, rfl, S⟩
  refine p_nil (x_then (s_seq (s_seq ?_)))
  refine s_cutK (ks := [some b4, some hb, k]) (ps := [Ex _ _, Ex _ _, Rw _ _ _ _ _]) [(0, .pointer _), (4, .pointer _)] ⟨rfl, rfl, trivial⟩ S (fun keep ks ps f' w' => ∃ u bb, f' = upds u ((15, .bool bb) :: keep) ∧ (bb = true ↔ (may = false ∨ 64 ≤ (X.length : Int))) ∧ St w0 w' (exOf [some hb, k]) ks ps) ?_ ?_
  · refine s_plain ?_
    rcases Bool.eq_false_or_eq_true may with rfl | rfl
    · skip
      refine p_val (e_move (v := .bool _) rfl) rfl ?_
      refine p_val (e_not rfl) rfl ?_
      refine p_val (e_move (v := .bool _) rfl) rfl ?_
      refine pg_val rfl rfl rfl rfl rfl (e_move (v := .pointer _) rfl) ?_
      refine pg_val rfl rfl rfl rfl rfl (e_nil rfl rfl) ?_
      refine pg_val rfl rfl rfl rfl rfl (e_field rfl Try.underlying72 rfl sz70 (by decide)) ?_
      refine pg_val rfl rfl rfl rfl rfl (e_loadF1 (i := 0) (off := 0) rfl ag70 S (j := 1) rfl rfl rfl (by first | with_reducible assumption | (rw [bv_length]; with_reducible assumption) | (rw [List.size_toArray, bv_length]; with_reducible assumption) | (simp [cat, ltC, Value.cells]; done) | (simp [cat, ltC, Value.cells]; omega) | rfl)) ?_
      refine pg_val rfl rfl rfl rfl rfl (e_len rfl Try.underlying70) ?_
      refine pg_val rfl rfl rfl rfl rfl (e_geq rfl rfl) ?_
      refine p_val (e_pick_f rfl rfl) rfl ?_
      exact p_nil (x_then ⟨_, rfl, _, _, upds_eq ⟨rfl, rfl, rfl, trivial⟩, by first | (simp only [decide_eq_true_eq, eq_self, true_iff, iff_true, iff_false, Bool.false_eq_true, false_iff, ge_iff_le, gt_iff_lt, true_and, and_true, false_and, and_false, true_or, or_true, false_or, or_false, not_true_eq_false, not_false_eq_true]; omega) | (simp; done) | omega | (simp_all; done), S⟩)
    · skip
      refine p_val (e_move (v := .bool _) rfl) rfl ?_
      refine p_val (e_not rfl) rfl ?_
      refine p_val (e_move (v := .bool _) rfl) rfl ?_
      refine p_no rfl rfl rfl rfl rfl ?_
      refine p_no rfl rfl rfl rfl rfl ?_
      refine p_no rfl rfl rfl rfl rfl ?_
      refine p_no rfl rfl rfl rfl rfl ?_
      refine p_no rfl rfl rfl rfl rfl ?_
      refine p_no rfl rfl rfl rfl rfl ?_
      refine p_val (e_pick_t rfl rfl) rfl ?_
      exact p_nil (x_then ⟨_, rfl, _, _, upds_eq ⟨rfl, rfl, rfl, trivial⟩, by first | (simp only [decide_eq_true_eq, eq_self, true_iff, iff_true, iff_false, Bool.false_eq_true, false_iff, ge_iff_le, gt_iff_lt, true_and, and_true, false_and, and_false, true_or, or_true, false_or, or_false, not_true_eq_false, not_false_eq_true]; omega) | (simp; done) | omega | (simp_all; done), S⟩)
  · rintro f w ⟨u, b15, rfl, hb15, S⟩
    refine x_then ?_
    refine s_condb rfl (fun hc15 => ?_) (fun hc15 => ?_)
    · have hp15 : (may = false ∨ 64 ≤ (X.length : Int)) := hb15.1 hc15
      refine s_seq (s_plain ?_)
      refine p_val (e_move (v := .pointer _) rfl) rfl ?_
      refine p_val (e_nil rfl rfl) rfl ?_
      refine p_val (e_field rfl Try.underlying72 rfl sz3 (by decide)) rfl ?_
      refine p_val (e_loadF1 (i := 1) (off := 1) rfl ag3 S (j := 1) rfl rfl rfl (by first | with_reducible assumption | (rw [bv_length]; with_reducible assumption) | (rw [List.size_toArray, bv_length]; with_reducible assumption) | (simp [cat, ltC, Value.cells]; done) | (simp [cat, ltC, Value.cells]; omega) | rfl)) rfl ?_
      refine p_val (e_add64 rfl rfl (by omega)) rfl ?_
      refine p_val (e_nil rfl rfl) rfl ?_
      refine p_val (e_field rfl Try.underlying72 rfl sz3 (by decide)) rfl ?_
      refine p_does (d_storeF1 (v := .int _ _) (off := 1) S 1 1 rfl rfl rfl sz3 rfl rfl rfl (by first | with_reducible assumption | (rw [bv_length]; with_reducible assumption) | (rw [List.size_toArray, bv_length]; with_reducible assumption) | (simp [cat, ltC, Value.cells]; done) | (simp [cat, ltC, Value.cells]; omega) | rfl)) rfl ?_
      intro _ w S
      refine p_nil (x_then (s_ret (x_then_ret ?_)))
      exact post0 Try.results65 (by have h : may = false ∨ 64 ≤ X.length := hp15.imp (fun h => h) (fun h => by omega); rw [nX_no h, nL_no h]; exact ⟨rfl, _, _, S.pk [1, 2] rfl⟩)
    · have hp15 : ¬ (may = false ∨ 64 ≤ (X.length : Int)) := fun h => by rw [hb15.2 h] at hc15; cases hc15
      refine s_skip (x_then ?_)
      refine s_drawK (ks := [some b4, some hb]) (ps := [Ex _ _, Ex _ _]) (S.pk [0, 1] rfl) [(true, 0), (true, 1), (true, 2), (true, 3), (true, 4), (true, 5), (false, 6), (false, 7), (true, 8)] [9] [9, 10] mixed (by kernel_rfl) (by repeat (first | exact Calm.post _ _ _ | refine Calm.then ?_ _ | refine Calm.inB ?_ _)) (fun hS => ?_)
      have S := S.drew
      refine q_val (fun w hS => e_move (v := .pointer _) rfl) rfl hS ?_
      refine q_val (fun w hS => e_move (v := .pointer _) rfl) rfl hS ?_
      refine q_val (fun w hS => e_nil rfl rfl) rfl hS ?_
      refine q_val (fun w hS => e_field rfl Try.underlying72 rfl sz70 (by decide)) rfl hS ?_
      refine q_val (fun w hS => e_loadF1 (i := 0) (off := 0) rfl ag70 hS (j := 1) rfl rfl rfl (by first | with_reducible assumption | (rw [bv_length]; with_reducible assumption) | (rw [List.size_toArray, bv_length]; with_reducible assumption) | (simp [cat, ltC, Value.cells]; done) | (simp [cat, ltC, Value.cells]; omega) | rfl)) rfl hS ?_
      refine q_val (fun w hS => e_loadW 0 rfl ag90 sz90 hS rfl rfl (by first | with_reducible assumption | (rw [bv_length]; with_reducible assumption) | (rw [List.size_toArray, bv_length]; with_reducible assumption) | (simp [cat, ltC, Value.cells]; done) | (simp [cat, ltC, Value.cells]; omega) | rfl)) rfl hS ?_
      refine q_does (d_litV S Try.underlying70 sz90 zv90 rfl (by decide) (E := [_]) rfl rfl (by intro l hl; simp at hl; rw [hl]; first | rfl | (simp [cat, ltC, Value.cells]; done)) (by decide)) rfl ?_
      rintro _ w ⟨b29, rfl, S⟩
      have hS := S.pk [1, 2] rfl
      refine ⟨hS, ?_⟩
      refine q_does (d_append S 3 rfl rfl Try.underlying70 el90 rfl rfl (S.rdRw 0 rfl rfl) (by first | exact bv_one _ | exact sv_one _ | exact iv_one _ | with_reducible assumption | (refine One.mem ?_; repeat (first | exact One.bv _ | exact One.sv _ | exact One.iv _ | exact One.nil | exact One.cat0 | refine One.cat1 ?_ ?_ | refine One.cons rfl ?_ | refine One.append ?_ ?_))) (by first | omega | (simp only [List.length_append, List.length_cons, List.length_nil, bv_length, ltC, Value.cells]; omega) | (simp [cat, ltC, Value.cells]; omega)) (by unfold maxLen; first | omega | (simp only [List.length_append, List.length_cons, List.length_nil, bv_length, ltC, Value.cells]; omega))) rfl ?_
      rintro _ w ⟨k30, c30, rfl, S⟩
      have hS := S.pk [1, 2] rfl
      refine ⟨hS, ?_⟩
      refine q_val (fun w hS => e_nil rfl rfl) rfl hS ?_
      refine q_nil ?_
      refine p_val (e_field rfl Try.underlying72 rfl sz70 (by decide)) rfl ?_
      refine p_does (d_storeF1 (v := .slice _ _ _) (off := 0) S 2 0 rfl rfl rfl sz70 rfl rfl rfl (by first | with_reducible assumption | (rw [bv_length]; with_reducible assumption) | (rw [List.size_toArray, bv_length]; with_reducible assumption) | (simp [cat, ltC, Value.cells]; done) | (simp [cat, ltC, Value.cells]; omega) | rfl)) rfl ?_
      intro _ w S
      refine p_nil (post_end ?_)
      exact post0 Try.results65 (by have h1 : may = true := (by cases may; exact absurd (Or.inl rfl) hp15; rfl); have h2 : X.length < 64 := Nat.lt_of_not_le (fun h => hp15 (.inr (by omega))); rw [nX_yes h1 h2, nL_yes h1 h2]; have T := S.pk [2, 3] rfl; rw [← put_flat, ← put_len X x] at T; exact ⟨rfl, _, _, T⟩)
theorem pl_put (w0 : World) (hb : Nat) (k : Option Nat) (c : Nat) (X : List Lt) (lost : Int) (x : Lt) (may : Bool) (S0 : St w0 w0 (exOf [some hb, k]) [some hb, k] [plnE k c X lost, netR c X]) (hX : X.length ≤ 64) (h0 : 0 ≤ lost) (h1 : lost ≤ 1000000000) :
    Ret Try.prog 62 [.pointer (some ⟨hb, 0, none⟩), .agg (cat (ltC x)).toArray, .bool may] w0 fun v w' => v = .tuple #[] ∧ ∃ k' c', St w0 w' (exOf [some hb, k]) [some hb, k'] [plnE k' c' (nX X x may) (nL X lost may), netR c' (nX X x may)] := by
  refine enter Try.func62 rfl Try.ntmps62 (Nat.le_of_ble_eq_true rfl) ?_
  have S := S0
  refine s_seq (s_plain ?_)
  refine p_does (d_boxA S rfl) rfl ?_
  rintro _ w ⟨b4, rfl, S⟩
  refine p_nil (x_then (s_seq (s_seq ?_)))
  refine s_cutK (ks := [some b4, some hb, k]) (ps := [Ex _ _, Ex _ _, Rw _ _ _ _ _]) [(0, .pointer _), (4, .pointer _)] ⟨rfl, rfl, trivial⟩ S (fun keep ks ps f' w' => ∃ u bb, f' = upds u ((15, .bool bb) :: keep) ∧ (bb = true ↔ (may = false ∨ 64 ≤ (X.length : Int))) ∧ St w0 w' (exOf [some hb, k]) ks ps) ?_ ?_
  · refine s_plain ?_
    rcases Bool.eq_false_or_eq_true may with rfl | rfl
    · skip
      refine p_val (e_move (v := .bool _) rfl) rfl ?_
      refine p_val (e_not rfl) rfl ?_
      refine p_val (e_move (v := .bool _) rfl) rfl ?_
      refine pg_val rfl rfl rfl rfl rfl (e_move (v := .pointer _) rfl) ?_
      refine pg_val rfl rfl rfl rfl rfl (e_nil rfl rfl) ?_
      refine pg_val rfl rfl rfl rfl rfl (e_field rfl Try.underlying75 rfl sz70 (by decide)) ?_
      refine pg_val rfl rfl rfl rfl rfl (e_loadF1 (i := 0) (off := 0) rfl ag70 S (j := 1) rfl rfl rfl (by first | with_reducible assumption | (rw [bv_length]; with_reducible assumption) | (rw [List.size_toArray, bv_length]; with_reducible assumption) | (simp [cat, ltC, Value.cells]; done) | (simp [cat, ltC, Value.cells]; omega) | rfl)) ?_
      refine pg_val rfl rfl rfl rfl rfl (e_len rfl Try.underlying70) ?_
      refine pg_val rfl rfl rfl rfl rfl (e_geq rfl rfl) ?_
      refine p_val (e_pick_f rfl rfl) rfl ?_
      exact p_nil (x_then ⟨_, rfl, _, _, upds_eq ⟨rfl, rfl, rfl, trivial⟩, by first | (simp only [decide_eq_true_eq, eq_self, true_iff, iff_true, iff_false, Bool.false_eq_true, false_iff, ge_iff_le, gt_iff_lt, true_and, and_true, false_and, and_false, true_or, or_true, false_or, or_false, not_true_eq_false, not_false_eq_true]; omega) | (simp; done) | omega | (simp_all; done), S⟩)
    · skip
      refine p_val (e_move (v := .bool _) rfl) rfl ?_
      refine p_val (e_not rfl) rfl ?_
      refine p_val (e_move (v := .bool _) rfl) rfl ?_
      refine p_no rfl rfl rfl rfl rfl ?_
      refine p_no rfl rfl rfl rfl rfl ?_
      refine p_no rfl rfl rfl rfl rfl ?_
      refine p_no rfl rfl rfl rfl rfl ?_
      refine p_no rfl rfl rfl rfl rfl ?_
      refine p_no rfl rfl rfl rfl rfl ?_
      refine p_val (e_pick_t rfl rfl) rfl ?_
      exact p_nil (x_then ⟨_, rfl, _, _, upds_eq ⟨rfl, rfl, rfl, trivial⟩, by first | (simp only [decide_eq_true_eq, eq_self, true_iff, iff_true, iff_false, Bool.false_eq_true, false_iff, ge_iff_le, gt_iff_lt, true_and, and_true, false_and, and_false, true_or, or_true, false_or, or_false, not_true_eq_false, not_false_eq_true]; omega) | (simp; done) | omega | (simp_all; done), S⟩)
  · rintro f w ⟨u, b15, rfl, hb15, S⟩
    refine x_then ?_
    refine s_condb rfl (fun hc15 => ?_) (fun hc15 => ?_)
    · have hp15 : (may = false ∨ 64 ≤ (X.length : Int)) := hb15.1 hc15
      refine s_seq (s_plain ?_)
      refine p_val (e_move (v := .pointer _) rfl) rfl ?_
      refine p_val (e_move (v := .pointer _) rfl) rfl ?_
      refine p_val (e_nil rfl rfl) rfl ?_
      refine p_val (e_field rfl Try.underlying75 rfl sz3 (by decide)) rfl ?_
      refine p_val (e_loadF1 (i := 1) (off := 1) rfl ag3 S (j := 1) rfl rfl rfl (by first | with_reducible assumption | (rw [bv_length]; with_reducible assumption) | (rw [List.size_toArray, bv_length]; with_reducible assumption) | (simp [cat, ltC, Value.cells]; done) | (simp [cat, ltC, Value.cells]; omega) | rfl)) rfl ?_
      refine p_val (e_add64 rfl rfl (by omega)) rfl ?_
      refine p_val (e_nil rfl rfl) rfl ?_
      refine p_val (e_field rfl Try.underlying75 rfl sz3 (by decide)) rfl ?_
      refine p_does (d_storeF1 (v := .int _ _) (off := 1) S 1 1 rfl rfl rfl sz3 rfl rfl rfl (by first | with_reducible assumption | (rw [bv_length]; with_reducible assumption) | (rw [List.size_toArray, bv_length]; with_reducible assumption) | (simp [cat, ltC, Value.cells]; done) | (simp [cat, ltC, Value.cells]; omega) | rfl)) rfl ?_
      intro _ w S
      refine p_nil (x_then (s_ret (x_then_ret ?_)))
      exact post0 Try.results62 (by have h : may = false ∨ 64 ≤ X.length := hp15.imp (fun h => h) (fun h => by omega); rw [nX_no h, nL_no h]; exact ⟨rfl, _, _, S.pk [1, 2] rfl⟩)
    · have hp15 : ¬ (may = false ∨ 64 ≤ (X.length : Int)) := fun h => by rw [hb15.2 h] at hc15; cases hc15
      refine s_skip (x_then ?_)
      refine s_drawK (ks := [some b4, some hb]) (ps := [Ex _ _, Ex _ _]) (S.pk [0, 1] rfl) [(true, 0), (true, 1), (true, 2), (true, 3), (true, 4), (true, 5), (false, 6), (false, 7), (true, 8)] [9] [9, 10] mixed (by kernel_rfl) (by repeat (first | exact Calm.post _ _ _ | refine Calm.then ?_ _ | refine Calm.inB ?_ _)) (fun hS => ?_)
      have S := S.drew
      refine q_val (fun w hS => e_move (v := .pointer _) rfl) rfl hS ?_
      refine q_val (fun w hS => e_move (v := .pointer _) rfl) rfl hS ?_
      refine q_val (fun w hS => e_nil rfl rfl) rfl hS ?_
      refine q_val (fun w hS => e_field rfl Try.underlying75 rfl sz70 (by decide)) rfl hS ?_
      refine q_val (fun w hS => e_loadF1 (i := 0) (off := 0) rfl ag70 hS (j := 1) rfl rfl rfl (by first | with_reducible assumption | (rw [bv_length]; with_reducible assumption) | (rw [List.size_toArray, bv_length]; with_reducible assumption) | (simp [cat, ltC, Value.cells]; done) | (simp [cat, ltC, Value.cells]; omega) | rfl)) rfl hS ?_
      refine q_val (fun w hS => e_loadW 0 rfl ag90 sz90 hS rfl rfl (by first | with_reducible assumption | (rw [bv_length]; with_reducible assumption) | (rw [List.size_toArray, bv_length]; with_reducible assumption) | (simp [cat, ltC, Value.cells]; done) | (simp [cat, ltC, Value.cells]; omega) | rfl)) rfl hS ?_
      refine q_does (d_litV S Try.underlying70 sz90 zv90 rfl (by decide) (E := [_]) rfl rfl (by intro l hl; simp at hl; rw [hl]; first | rfl | (simp [cat, ltC, Value.cells]; done)) (by decide)) rfl ?_
      rintro _ w ⟨b30, rfl, S⟩
      have hS := S.pk [1, 2] rfl
      refine ⟨hS, ?_⟩
      refine q_does (d_append S 3 rfl rfl Try.underlying70 el90 rfl rfl (S.rdRw 0 rfl rfl) (by first | exact bv_one _ | exact sv_one _ | exact iv_one _ | with_reducible assumption | (refine One.mem ?_; repeat (first | exact One.bv _ | exact One.sv _ | exact One.iv _ | exact One.nil | exact One.cat0 | refine One.cat1 ?_ ?_ | refine One.cons rfl ?_ | refine One.append ?_ ?_))) (by first | omega | (simp only [List.length_append, List.length_cons, List.length_nil, bv_length, ltC, Value.cells]; omega) | (simp [cat, ltC, Value.cells]; omega)) (by unfold maxLen; first | omega | (simp only [List.length_append, List.length_cons, List.length_nil, bv_length, ltC, Value.cells]; omega))) rfl ?_
      rintro _ w ⟨k31, c31, rfl, S⟩
      have hS := S.pk [1, 2] rfl
      refine ⟨hS, ?_⟩
      refine q_val (fun w hS => e_nil rfl rfl) rfl hS ?_
      refine q_nil ?_
      refine p_val (e_field rfl Try.underlying75 rfl sz70 (by decide)) rfl ?_
      refine p_does (d_storeF1 (v := .slice _ _ _) (off := 0) S 2 0 rfl rfl rfl sz70 rfl rfl rfl (by first | with_reducible assumption | (rw [bv_length]; with_reducible assumption) | (rw [List.size_toArray, bv_length]; with_reducible assumption) | (simp [cat, ltC, Value.cells]; done) | (simp [cat, ltC, Value.cells]; omega) | rfl)) rfl ?_
      intro _ w S
      refine p_nil (post_end ?_)
      exact post0 Try.results62 (by have h1 : may = true := (by cases may; exact absurd (Or.inl rfl) hp15; rfl); have h2 : X.length < 64 := Nat.lt_of_not_le (fun h => hp15 (.inr (by omega))); rw [nX_yes h1 h2, nL_yes h1 h2]; have T := S.pk [2, 3] rfl; rw [← put_flat, ← put_len X x] at T; exact ⟨rfl, _, _, T⟩)
end Go.Proofs.Ytcgcjklpilbndaa
