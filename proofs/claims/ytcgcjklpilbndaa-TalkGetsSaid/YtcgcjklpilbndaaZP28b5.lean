/- Own texts, one behind the other: walks and laws that the statement needs. They prove no statement by themselves. -/
import Derived.Test.YtcgcjklpilbndaaZP28b4
import Derived.Test.YtcgcjklpilbndaaZP28b3
import Derived.Test.YtcgcjklpilbndaaZP28b2
import Derived.Lib.SlBytesConst
import Derived.Test.YtcgcjklpilbndaaZP28b1
/- Messages' bytes, walked. It proves no statement by itself. -/
set_option linter.unusedSimpArgs false
set_option linter.unusedVariables false
set_option maxRecDepth 100000
set_option maxHeartbeats 2000000
namespace Go.Proofs.Ytcgcjklpilbndaa
open Go Go.RowKit E
attribute [local irreducible] wpList seqH treeH
theorem tk_put (w0 : World) (m : Msg) (A1 : Option Addr) (x1 : Nat) (b : List Nat) (A2 : Option Addr) (x2 : Nat) (s : List Nat) (hm : m.ok) (RB : Rd w0 1 A1 b.length (bv b)) (RS : Rd w0 1 A2 s.length (bv s)) (nB : b.length ≤ 1000000000) (nS : s.length ≤ 1000000000) :
    Ret Try.prog 44 [.agg (cat (msgC m A1 b.length x1 A2 s.length x2)).toArray] w0 fun v w' => ∃ k c o e, v = .tuple #[.slice (at_ k) (List.length o) c, .int .i64 e] ∧ (m.right → o = tput m b s ∧ e = 0) ∧ (¬ m.right → o = [] ∧ e = 1) ∧ St w0 w' [] [k] [Rw 5 1 (List.length o) c (bv o)] := by
  refine enter Try.func44 rfl Try.ntmps44 (Nat.le_of_ble_eq_true rfl) ?_
  have S := St.init w0
  have hr : m.r.ok := ⟨hm.rh, hm.rb⟩
  have hj : m.j.ok := hm.j
  have hn1 := nums_len [m.k, m.f, m.t]
  have hn2 := nums_len [m.n, m.c, m.p]
  simp only [List.length_cons, List.length_nil] at hn1 hn2
  have hn3 := num_len m.gk
  have hn4 := num_len m.m
  have hn5 := jput_len (b := b) hj
  have hn6 := sput_len (s := s) hr
  have hn7 := num_len ((jput m.j b).length : Int)
  have hn8 := num_len ((sput m.r s).length : Int)
  have e0 := hm.h0
  have e1 := hm.h1
  have e2 := hm.go
  have e3 := hm.sec
  refine s_seq (s_plain ?_)
  refine p_does (d_boxA S rfl) rfl ?_
  rintro _ w ⟨b1, rfl, S⟩
  refine p_val (e_assign (v := .slice _ _ _) rfl) rfl ?_
  refine p_val (e_assign (v := .int _ _) rfl) rfl ?_
  refine p_nil (x_then (s_seq (s_seq (s_plain ?_))))
  refine p_val (e_loadW 0 rfl ag84 sz84 S rfl rfl (by first | with_reducible assumption | (rw [bv_length]; with_reducible assumption) | (rw [List.size_toArray, bv_length]; with_reducible assumption) | (simp [cat, msgC, jbC, sgdC, rcpC, hm.h0, hm.h1, hm.go, hm.sec, hm.j, hm.rh, hm.rb, zc78, zc82, zc54, length_zsum]; done) | (simp [cat, msgC, jbC, sgdC, rcpC, hm.h0, hm.h1, hm.go, hm.sec, hm.j, hm.rh, hm.rb, zc78, zc82, zc54, length_zsum]; omega) | rfl)) rfl ?_
  refine p_does (d_call Try.func45 nm45 rfl rfl (tk_right _ m _ _ _ _ _ _ hm)) rfl ?_
  rintro _ w ⟨rfl, hB⟩
  have S := S.below hB
  refine p_val (e_not rfl) rfl ?_
  refine p_nil (x_then ?_)
  refine s_condb rfl (fun hc8 => ?_) (fun hc8 => ?_)
  · have hno : ¬ m.right := by simpa using hc8
    refine s_seq (s_plain ?_)
    refine p_val (e_assign (v := .slice _ _ _) rfl) rfl ?_
    refine p_val (e_assign (v := .int _ _) rfl) rfl ?_
    refine p_nil (x_then (s_ret (x_then_ret ?_)))
    exact post2 (v := .slice _ _ _) (x := .int _ _) Try.results44 rfl rfl (⟨none, 0, [], _, rfl, fun h => absurd h hno, fun _ => ⟨rfl, rfl⟩, S.none_.addNil 5 1⟩)
  · have hyes : m.right := by simpa using hc8
    refine s_skip (x_then (s_seq (s_plain ?_)))
    refine p_does (d_allocA S zs56) rfl ?_
    rintro _ w ⟨b4, rfl, S⟩
    have S := pen_new S
    refine p_nil (x_then (s_seq (s_plain ?_)))
    refine p_val (e_field rfl Try.underlying84 rfl sz3 (by decide)) rfl ?_
    refine p_val (e_loadF1 (i := 0) (off := 0) rfl ag3 S (j := 2) rfl rfl rfl (by first | with_reducible assumption | (rw [bv_length]; with_reducible assumption) | (rw [List.size_toArray, bv_length]; with_reducible assumption) | (simp [cat, msgC, jbC, sgdC, rcpC, hm.h0, hm.h1, hm.go, hm.sec, hm.j, hm.rh, hm.rb, zc78, zc82, zc54, length_zsum]; done) | (simp [cat, msgC, jbC, sgdC, rcpC, hm.h0, hm.h1, hm.go, hm.sec, hm.j, hm.rh, hm.rb, zc78, zc82, zc54, length_zsum]; omega) | rfl)) rfl ?_
    refine p_val (e_field rfl Try.underlying84 rfl sz3 (by decide)) rfl ?_
    refine p_val (e_loadF1 (i := 1) (off := 1) rfl ag3 S (j := 2) rfl rfl rfl (by first | with_reducible assumption | (rw [bv_length]; with_reducible assumption) | (rw [List.size_toArray, bv_length]; with_reducible assumption) | (simp [cat, msgC, jbC, sgdC, rcpC, hm.h0, hm.h1, hm.go, hm.sec, hm.j, hm.rh, hm.rb, zc78, zc82, zc54, length_zsum]; done) | (simp [cat, msgC, jbC, sgdC, rcpC, hm.h0, hm.h1, hm.go, hm.sec, hm.j, hm.rh, hm.rb, zc78, zc82, zc54, length_zsum]; omega) | rfl)) rfl ?_
    refine p_val (e_field rfl Try.underlying84 rfl sz3 (by decide)) rfl ?_
    refine p_val (e_loadF1 (i := 2) (off := 2) rfl ag3 S (j := 2) rfl rfl rfl (by first | with_reducible assumption | (rw [bv_length]; with_reducible assumption) | (rw [List.size_toArray, bv_length]; with_reducible assumption) | (simp [cat, msgC, jbC, sgdC, rcpC, hm.h0, hm.h1, hm.go, hm.sec, hm.j, hm.rh, hm.rb, zc78, zc82, zc54, length_zsum]; done) | (simp [cat, msgC, jbC, sgdC, rcpC, hm.h0, hm.h1, hm.go, hm.sec, hm.j, hm.rh, hm.rb, zc78, zc82, zc54, length_zsum]; omega) | rfl)) rfl ?_
    refine p_does (d_litI S Try.underlying31 sz3 zv3 rfl (l := [_, _, _]) rfl rfl (by decide)) rfl ?_
    rintro _ w ⟨b15, rfl, S⟩
    refine p_does (d_call Try.func58 nm58 rfl rfl (pen_nums _ _ _ _ _ _ _ _ _ (S.hr [1, 2] rfl) (S.rdRw 0 rfl rfl) (S.offRow 0 [1, 2] rfl rfl) (by first | omega | (simp only [List.length_append, List.length_cons, List.length_nil, bv_length, msgC, jbC, sgdC, rcpC, hm.h0, hm.h1, hm.go, hm.sec, hm.j, hm.rh, hm.rb, zc78, zc82, zc54, length_zsum]; omega) | (simp [cat, msgC, jbC, sgdC, rcpC, hm.h0, hm.h1, hm.go, hm.sec, hm.j, hm.rh, hm.rb, zc78, zc82, zc54, length_zsum]; omega)) (by decide))) rfl ?_
    rintro _ w ⟨rfl, k16, c16, T⟩
    have S := (S.call [1, 2] T rfl).pk [2, 0, 1, 5] rfl
    refine p_nil (x_then (s_seq (s_plain ?_)))
    refine p_val (e_field rfl Try.underlying84 rfl sz78 (by decide)) rfl ?_
    refine p_val (e_loadFS (i := 3) (n := 5) (off := 3) rfl ag78 sz78 (by decide) S (j := 3) rfl rfl (by first | with_reducible assumption | (rw [bv_length]; with_reducible assumption) | (rw [List.size_toArray, bv_length]; with_reducible assumption) | (simp [cat, msgC, jbC, sgdC, rcpC, hm.h0, hm.h1, hm.go, hm.sec, hm.j, hm.rh, hm.rb, zc78, zc82, zc54, length_zsum]; done) | (simp [cat, msgC, jbC, sgdC, rcpC, hm.h0, hm.h1, hm.go, hm.sec, hm.j, hm.rh, hm.rb, zc78, zc82, zc54, length_zsum]; omega) | rfl) (by first | with_reducible assumption | (rw [bv_length]; with_reducible assumption) | (rw [List.size_toArray, bv_length]; with_reducible assumption) | (simp [cat, msgC, jbC, sgdC, rcpC, hm.h0, hm.h1, hm.go, hm.sec, hm.j, hm.rh, hm.rb, zc78, zc82, zc54, length_zsum]; done) | (simp [cat, msgC, jbC, sgdC, rcpC, hm.h0, hm.h1, hm.go, hm.sec, hm.j, hm.rh, hm.rb, zc78, zc82, zc54, length_zsum]; omega) | rfl)) rfl ?_
    refine p_does (d_allocA S zs78) rfl ?_
    rintro _ w ⟨b5, rfl, S⟩
    refine p_does (d_storeW S 0 rfl rfl (by first | exact bv_one _ | exact sv_one _ | exact iv_one _ | with_reducible assumption | (refine One.mem ?_; repeat (first | exact One.bv _ | exact One.sv _ | exact One.iv _ | exact One.nil | exact One.cat0 | refine One.cat1 ?_ ?_ | refine One.cons rfl ?_ | refine One.append ?_ ?_))) sz78 (by first | with_reducible assumption | (rw [bv_length]; with_reducible assumption) | (rw [List.size_toArray, bv_length]; with_reducible assumption) | (simp [cat, msgC, jbC, sgdC, rcpC, hm.h0, hm.h1, hm.go, hm.sec, hm.j, hm.rh, hm.rb, zc78, zc82, zc54, length_zsum]; done) | (simp [cat, msgC, jbC, sgdC, rcpC, hm.h0, hm.h1, hm.go, hm.sec, hm.j, hm.rh, hm.rb, zc78, zc82, zc54, length_zsum]; omega) | rfl) rfl rfl (by first | with_reducible assumption | (rw [bv_length]; with_reducible assumption) | (rw [List.size_toArray, bv_length]; with_reducible assumption) | (simp [cat, msgC, jbC, sgdC, rcpC, hm.h0, hm.h1, hm.go, hm.sec, hm.j, hm.rh, hm.rb, zc78, zc82, zc54, length_zsum]; done) | (simp [cat, msgC, jbC, sgdC, rcpC, hm.h0, hm.h1, hm.go, hm.sec, hm.j, hm.rh, hm.rb, zc78, zc82, zc54, length_zsum]; omega) | rfl)) rfl ?_
    intro _ w S
    refine p_nil (x_then (s_seq ?_))
    refine s_cutK (ks := [some b5, some b15, some b4, k16, some b1]) (ps := [Ex _ _, Rw _ _ _ _ _, Ex _ _, Rw _ _ _ _ _, Ex _ _]) [(4, .pointer _)] ⟨rfl, trivial⟩ S (fun keep ks ps f' w' => ∃ u Kp4 Cp4 q, f' = upds u (keep) ∧ (q = tput m b s) ∧ St w0 w' [] [some b5, some b15, some b4, Kp4, some b1] [(ps.getD 0 fun _ => True), (ps.getD 1 fun _ => True), penE Kp4 Cp4 q, Rw 5 1 ((List.length q)) Cp4 (bv q), (ps.getD 4 fun _ => True)]) ?_ ?_
    · refine s_seq (s_plain ?_)
      refine p_val (e_field rfl Try.underlying84 rfl sz3 (by decide)) rfl ?_
      refine p_val (e_loadF1 (i := 0) (off := 0) rfl ag3 S (j := 4) rfl rfl rfl (by first | with_reducible assumption | (rw [bv_length]; with_reducible assumption) | (rw [List.size_toArray, bv_length]; with_reducible assumption) | (simp [cat, msgC, jbC, sgdC, rcpC, hm.h0, hm.h1, hm.go, hm.sec, hm.j, hm.rh, hm.rb, zc78, zc82, zc54, length_zsum]; done) | (simp [cat, msgC, jbC, sgdC, rcpC, hm.h0, hm.h1, hm.go, hm.sec, hm.j, hm.rh, hm.rb, zc78, zc82, zc54, length_zsum]; omega) | rfl)) rfl ?_
      refine p_nil (x_then (s_block (s_seq (s_plain ?_))))
      refine p_val (e_eql rfl rfl) rfl ?_
      refine p_val (e_assign (v := .bool _) rfl) rfl ?_
      refine p_nil (x_then ?_)
      refine s_cond rfl (fun hc25 => ?_) (fun hc25 => ?_)
      · refine s_drawK (ks := [some b5, some b15, some b1]) (ps := [Ex _ _, Rw _ _ _ _ _, Ex _ _]) (S.pk [0, 1, 4] rfl) [(true, 0), (true, 1), (true, 2), (true, 3), (true, 4), (true, 5), (true, 8), (true, 9), (true, 10), (true, 12), (true, 13), (true, 14), (true, 16), (true, 17), (true, 18), (true, 20), (true, 21), (true, 22), (false, 6), (false, 7), (false, 11), (false, 15), (false, 19), (false, 23)] [] [] mixed (by kernel_rfl) (by repeat (first | exact Calm.post _ _ _ | refine Calm.then ?_ _ | refine Calm.inB ?_ _)) (fun hS => ?_)
        have S := S.drew
        refine q_val (fun w hS => e_field rfl Try.underlying78 rfl sz3 (by decide)) rfl hS ?_
        refine q_val (fun w hS => e_loadF1 (i := 0) (off := 0) rfl ag3 hS (j := 0) rfl rfl rfl (by first | with_reducible assumption | (rw [bv_length]; with_reducible assumption) | (rw [List.size_toArray, bv_length]; with_reducible assumption) | (simp [cat, msgC, jbC, sgdC, rcpC, hm.h0, hm.h1, hm.go, hm.sec, hm.j, hm.rh, hm.rb, zc78, zc82, zc54, length_zsum]; done) | (simp [cat, msgC, jbC, sgdC, rcpC, hm.h0, hm.h1, hm.go, hm.sec, hm.j, hm.rh, hm.rb, zc78, zc82, zc54, length_zsum]; omega) | rfl)) rfl hS ?_
        refine q_val (fun w hS => e_field rfl Try.underlying78 rfl sz2 (by decide)) rfl hS ?_
        refine q_val (fun w hS => e_loadF1 (i := 1) (off := 1) rfl ag2 hS (j := 0) rfl rfl rfl (by first | with_reducible assumption | (rw [bv_length]; with_reducible assumption) | (rw [List.size_toArray, bv_length]; with_reducible assumption) | (simp [cat, msgC, jbC, sgdC, rcpC, hm.h0, hm.h1, hm.go, hm.sec, hm.j, hm.rh, hm.rb, zc78, zc82, zc54, length_zsum]; done) | (simp [cat, msgC, jbC, sgdC, rcpC, hm.h0, hm.h1, hm.go, hm.sec, hm.j, hm.rh, hm.rb, zc78, zc82, zc54, length_zsum]; omega) | rfl)) rfl hS ?_
        refine q_val (fun w hS => e_field rfl Try.underlying78 rfl sz2 (by decide)) rfl hS ?_
        refine q_val (fun w hS => e_loadF1 (i := 2) (off := 2) rfl ag2 hS (j := 0) rfl rfl rfl (by first | with_reducible assumption | (rw [bv_length]; with_reducible assumption) | (rw [List.size_toArray, bv_length]; with_reducible assumption) | (simp [cat, msgC, jbC, sgdC, rcpC, hm.h0, hm.h1, hm.go, hm.sec, hm.j, hm.rh, hm.rb, zc78, zc82, zc54, length_zsum]; done) | (simp [cat, msgC, jbC, sgdC, rcpC, hm.h0, hm.h1, hm.go, hm.sec, hm.j, hm.rh, hm.rb, zc78, zc82, zc54, length_zsum]; omega) | rfl)) rfl hS ?_
        refine q_val (fun w hS => e_field rfl Try.underlying78 rfl sz76 (by decide)) rfl hS ?_
        refine q_val (fun w hS => e_ix_arr rfl rfl Try.underlying76 sz44 (by omega)) rfl hS ?_
        refine q_val (fun w hS => e_loadFA (i := 3) (off := 3) rfl ag44 sz44 (by decide) hS (j := 0) rfl rfl rfl (by first | with_reducible assumption | (rw [bv_length]; with_reducible assumption) | (rw [List.size_toArray, bv_length]; with_reducible assumption) | (simp [cat, msgC, jbC, sgdC, rcpC, hm.h0, hm.h1, hm.go, hm.sec, hm.j, hm.rh, hm.rb, zc78, zc82, zc54, length_zsum]; done) | (simp [cat, msgC, jbC, sgdC, rcpC, hm.h0, hm.h1, hm.go, hm.sec, hm.j, hm.rh, hm.rb, zc78, zc82, zc54, length_zsum]; omega) | rfl) (by first | with_reducible assumption | (rw [bv_length]; with_reducible assumption) | (rw [List.size_toArray, bv_length]; with_reducible assumption) | (simp [cat, msgC, jbC, sgdC, rcpC, hm.h0, hm.h1, hm.go, hm.sec, hm.j, hm.rh, hm.rb, zc78, zc82, zc54, length_zsum]; done) | (simp [cat, msgC, jbC, sgdC, rcpC, hm.h0, hm.h1, hm.go, hm.sec, hm.j, hm.rh, hm.rb, zc78, zc82, zc54, length_zsum]; omega) | rfl)) rfl hS ?_
        refine q_val (fun w hS => e_field rfl Try.underlying78 rfl sz76 (by decide)) rfl hS ?_
        refine q_val (fun w hS => e_ix_arr rfl rfl Try.underlying76 sz44 (by omega)) rfl hS ?_
        refine q_val (fun w hS => e_loadFA (i := 4) (off := 35) rfl ag44 sz44 (by decide) hS (j := 0) rfl rfl rfl (by first | with_reducible assumption | (rw [bv_length]; with_reducible assumption) | (rw [List.size_toArray, bv_length]; with_reducible assumption) | (simp [cat, msgC, jbC, sgdC, rcpC, hm.h0, hm.h1, hm.go, hm.sec, hm.j, hm.rh, hm.rb, zc78, zc82, zc54, length_zsum]; done) | (simp [cat, msgC, jbC, sgdC, rcpC, hm.h0, hm.h1, hm.go, hm.sec, hm.j, hm.rh, hm.rb, zc78, zc82, zc54, length_zsum]; omega) | rfl) (by first | with_reducible assumption | (rw [bv_length]; with_reducible assumption) | (rw [List.size_toArray, bv_length]; with_reducible assumption) | (simp [cat, msgC, jbC, sgdC, rcpC, hm.h0, hm.h1, hm.go, hm.sec, hm.j, hm.rh, hm.rb, zc78, zc82, zc54, length_zsum]; done) | (simp [cat, msgC, jbC, sgdC, rcpC, hm.h0, hm.h1, hm.go, hm.sec, hm.j, hm.rh, hm.rb, zc78, zc82, zc54, length_zsum]; omega) | rfl)) rfl hS ?_
        refine q_val (fun w hS => e_field rfl Try.underlying84 rfl sz80 (by decide)) rfl hS ?_
        refine q_val (fun w hS => e_field rfl Try.underlying80 rfl sz3 (by decide)) rfl hS ?_
        refine q_val (fun w hS => e_loadF1 (i := 8) (off := 70) rfl ag3 hS (j := 2) rfl rfl rfl (by first | with_reducible assumption | (rw [bv_length]; with_reducible assumption) | (rw [List.size_toArray, bv_length]; with_reducible assumption) | (simp [cat, msgC, jbC, sgdC, rcpC, hm.h0, hm.h1, hm.go, hm.sec, hm.j, hm.rh, hm.rb, zc78, zc82, zc54, length_zsum]; done) | (simp [cat, msgC, jbC, sgdC, rcpC, hm.h0, hm.h1, hm.go, hm.sec, hm.j, hm.rh, hm.rb, zc78, zc82, zc54, length_zsum]; omega) | rfl)) rfl hS ?_
        refine q_val (fun w hS => e_field rfl Try.underlying84 rfl sz80 (by decide)) rfl hS ?_
        refine q_val (fun w hS => e_field rfl Try.underlying80 rfl sz44 (by decide)) rfl hS ?_
        refine q_val (fun w hS => e_loadFA (i := 9) (off := 71) rfl ag44 sz44 (by decide) hS (j := 2) rfl rfl rfl (by first | with_reducible assumption | (rw [bv_length]; with_reducible assumption) | (rw [List.size_toArray, bv_length]; with_reducible assumption) | (simp [cat, msgC, jbC, sgdC, rcpC, hm.h0, hm.h1, hm.go, hm.sec, hm.j, hm.rh, hm.rb, zc78, zc82, zc54, length_zsum]; done) | (simp [cat, msgC, jbC, sgdC, rcpC, hm.h0, hm.h1, hm.go, hm.sec, hm.j, hm.rh, hm.rb, zc78, zc82, zc54, length_zsum]; omega) | rfl) (by first | with_reducible assumption | (rw [bv_length]; with_reducible assumption) | (rw [List.size_toArray, bv_length]; with_reducible assumption) | (simp [cat, msgC, jbC, sgdC, rcpC, hm.h0, hm.h1, hm.go, hm.sec, hm.j, hm.rh, hm.rb, zc78, zc82, zc54, length_zsum]; done) | (simp [cat, msgC, jbC, sgdC, rcpC, hm.h0, hm.h1, hm.go, hm.sec, hm.j, hm.rh, hm.rb, zc78, zc82, zc54, length_zsum]; omega) | rfl)) rfl hS ?_
        refine q_does (d_litI S Try.underlying31 sz3 zv3 rfl (l := [_, _, _]) rfl rfl (by decide)) rfl ?_
        rintro _ w ⟨b33, rfl, S⟩
        have hS := S.pk [1, 2, 5] rfl
        refine ⟨hS, ?_⟩
        refine q_does (d_call Try.func58 nm58 rfl rfl (pen_nums _ _ _ _ _ _ _ _ _ (S.hr [3, 4] rfl) (S.rdRw 0 rfl rfl) (S.offRow 0 [3, 4] rfl rfl) (by first | omega | (simp only [List.length_append, List.length_cons, List.length_nil, bv_length, msgC, jbC, sgdC, rcpC, hm.h0, hm.h1, hm.go, hm.sec, hm.j, hm.rh, hm.rb, zc78, zc82, zc54, length_zsum]; omega) | (simp [cat, msgC, jbC, sgdC, rcpC, hm.h0, hm.h1, hm.go, hm.sec, hm.j, hm.rh, hm.rb, zc78, zc82, zc54, length_zsum]; omega)) (by decide))) rfl ?_
        rintro _ w ⟨rfl, k34, c34, T⟩
        have S := (S.call [3, 4] T rfl).pk [2, 3, 4, 0, 1, 7] rfl
        have hS := S.pk [1, 2, 5] rfl
        refine ⟨hS, ?_⟩
        refine q_does (d_call Try.func57 nm57 rfl rfl (pen_sum _ _ _ _ _ _ (S.hr [3, 4] rfl) (by first | with_reducible assumption | (rw [bv_length]; with_reducible assumption) | (rw [List.size_toArray, bv_length]; with_reducible assumption) | (simp [cat, msgC, jbC, sgdC, rcpC, hm.h0, hm.h1, hm.go, hm.sec, hm.j, hm.rh, hm.rb, zc78, zc82, zc54, length_zsum]; done) | (simp [cat, msgC, jbC, sgdC, rcpC, hm.h0, hm.h1, hm.go, hm.sec, hm.j, hm.rh, hm.rb, zc78, zc82, zc54, length_zsum]; omega) | rfl) (by first | omega | (simp only [List.length_append, List.length_cons, List.length_nil, bv_length, msgC, jbC, sgdC, rcpC, hm.h0, hm.h1, hm.go, hm.sec, hm.j, hm.rh, hm.rb, zc78, zc82, zc54, length_zsum]; omega) | (simp [cat, msgC, jbC, sgdC, rcpC, hm.h0, hm.h1, hm.go, hm.sec, hm.j, hm.rh, hm.rb, zc78, zc82, zc54, length_zsum]; omega)))) rfl ?_
        rintro _ w ⟨rfl, k38, c38, T⟩
        have S := (S.call [3, 4] T rfl).pk [2, 3, 4, 0, 1, 7] rfl
        have hS := S.pk [1, 2, 5] rfl
        refine ⟨hS, ?_⟩
        refine q_does (d_call Try.func57 nm57 rfl rfl (pen_sum _ _ _ _ _ _ (S.hr [3, 4] rfl) (by first | with_reducible assumption | (rw [bv_length]; with_reducible assumption) | (rw [List.size_toArray, bv_length]; with_reducible assumption) | (simp [cat, msgC, jbC, sgdC, rcpC, hm.h0, hm.h1, hm.go, hm.sec, hm.j, hm.rh, hm.rb, zc78, zc82, zc54, length_zsum]; done) | (simp [cat, msgC, jbC, sgdC, rcpC, hm.h0, hm.h1, hm.go, hm.sec, hm.j, hm.rh, hm.rb, zc78, zc82, zc54, length_zsum]; omega) | rfl) (by first | omega | (simp only [List.length_append, List.length_cons, List.length_nil, bv_length, msgC, jbC, sgdC, rcpC, hm.h0, hm.h1, hm.go, hm.sec, hm.j, hm.rh, hm.rb, zc78, zc82, zc54, length_zsum]; omega) | (simp [cat, msgC, jbC, sgdC, rcpC, hm.h0, hm.h1, hm.go, hm.sec, hm.j, hm.rh, hm.rb, zc78, zc82, zc54, length_zsum]; omega)))) rfl ?_
        rintro _ w ⟨rfl, k42, c42, T⟩
        have S := (S.call [3, 4] T rfl).pk [2, 3, 4, 0, 1, 7] rfl
        have hS := S.pk [1, 2, 5] rfl
        refine ⟨hS, ?_⟩
        refine q_does (d_call Try.func56 nm56 rfl rfl (pen_num _ _ _ _ _ _ (S.hr [3, 4] rfl) (by first | omega | (simp only [List.length_append, List.length_cons, List.length_nil, bv_length, msgC, jbC, sgdC, rcpC, hm.h0, hm.h1, hm.go, hm.sec, hm.j, hm.rh, hm.rb, zc78, zc82, zc54, length_zsum]; omega) | (simp [cat, msgC, jbC, sgdC, rcpC, hm.h0, hm.h1, hm.go, hm.sec, hm.j, hm.rh, hm.rb, zc78, zc82, zc54, length_zsum]; omega)))) rfl ?_
        rintro _ w ⟨rfl, k46, c46, T⟩
        have S := (S.call [3, 4] T rfl).pk [2, 3, 4, 0, 1, 7] rfl
        have hS := S.pk [1, 2, 5] rfl
        refine ⟨hS, ?_⟩
        refine q_does (d_call Try.func57 nm57 rfl rfl (pen_sum _ _ _ _ _ _ (S.hr [3, 4] rfl) (by first | with_reducible assumption | (rw [bv_length]; with_reducible assumption) | (rw [List.size_toArray, bv_length]; with_reducible assumption) | (simp [cat, msgC, jbC, sgdC, rcpC, hm.h0, hm.h1, hm.go, hm.sec, hm.j, hm.rh, hm.rb, zc78, zc82, zc54, length_zsum]; done) | (simp [cat, msgC, jbC, sgdC, rcpC, hm.h0, hm.h1, hm.go, hm.sec, hm.j, hm.rh, hm.rb, zc78, zc82, zc54, length_zsum]; omega) | rfl) (by first | omega | (simp only [List.length_append, List.length_cons, List.length_nil, bv_length, msgC, jbC, sgdC, rcpC, hm.h0, hm.h1, hm.go, hm.sec, hm.j, hm.rh, hm.rb, zc78, zc82, zc54, length_zsum]; omega) | (simp [cat, msgC, jbC, sgdC, rcpC, hm.h0, hm.h1, hm.go, hm.sec, hm.j, hm.rh, hm.rb, zc78, zc82, zc54, length_zsum]; omega)))) rfl ?_
        rintro _ w ⟨rfl, k50, c50, T⟩
        have S := (S.call [3, 4] T rfl).pk [2, 3, 4, 0, 1, 7] rfl
        have hS := S.pk [1, 2, 5] rfl
        refine ⟨hS, ?_⟩
        refine q_nil (p_nil (x_in ?_))
        exact x_then ⟨_, rfl, _, _, _, _, upds_eq ⟨rfl, trivial⟩, by simp [tput, tbody, hc25, nums], S.pk [1, 2, 3, 4, 5] rfl⟩
      · refine s_seq (s_plain ?_)
        refine p_val (e_eql rfl rfl) rfl ?_
        refine p_val (e_assign (v := .bool _) rfl) rfl ?_
        refine p_nil (x_then ?_)
        refine s_cond rfl (fun hc51 => ?_) (fun hc51 => ?_)
        · refine s_drawK (ks := [some b5, some b15, some b1]) (ps := [Ex _ _, Rw _ _ _ _ _, Ex _ _]) (S.pk [0, 1, 4] rfl) [(true, 0), (true, 1), (true, 3), (true, 4), (true, 6), (true, 7), (true, 8), (true, 10), (true, 11), (true, 12), (false, 2), (false, 5), (false, 9), (false, 13)] [] [] mixed (by kernel_rfl) (by repeat (first | exact Calm.post _ _ _ | refine Calm.then ?_ _ | refine Calm.inB ?_ _)) (fun hS => ?_)
          have S := S.drew
          refine q_val (fun w hS => e_field rfl Try.underlying84 rfl sz3 (by decide)) rfl hS ?_
          refine q_val (fun w hS => e_loadF1 (i := 10) (off := 103) rfl ag3 hS (j := 2) rfl rfl rfl (by first | with_reducible assumption | (rw [bv_length]; with_reducible assumption) | (rw [List.size_toArray, bv_length]; with_reducible assumption) | (simp [cat, msgC, jbC, sgdC, rcpC, hm.h0, hm.h1, hm.go, hm.sec, hm.j, hm.rh, hm.rb, zc78, zc82, zc54, length_zsum]; done) | (simp [cat, msgC, jbC, sgdC, rcpC, hm.h0, hm.h1, hm.go, hm.sec, hm.j, hm.rh, hm.rb, zc78, zc82, zc54, length_zsum]; omega) | rfl)) rfl hS ?_
          refine q_val (fun w hS => e_field rfl Try.underlying84 rfl sz44 (by decide)) rfl hS ?_
          refine q_val (fun w hS => e_loadFA (i := 11) (off := 104) rfl ag44 sz44 (by decide) hS (j := 2) rfl rfl rfl (by first | with_reducible assumption | (rw [bv_length]; with_reducible assumption) | (rw [List.size_toArray, bv_length]; with_reducible assumption) | (simp [cat, msgC, jbC, sgdC, rcpC, hm.h0, hm.h1, hm.go, hm.sec, hm.j, hm.rh, hm.rb, zc78, zc82, zc54, length_zsum]; done) | (simp [cat, msgC, jbC, sgdC, rcpC, hm.h0, hm.h1, hm.go, hm.sec, hm.j, hm.rh, hm.rb, zc78, zc82, zc54, length_zsum]; omega) | rfl) (by first | with_reducible assumption | (rw [bv_length]; with_reducible assumption) | (rw [List.size_toArray, bv_length]; with_reducible assumption) | (simp [cat, msgC, jbC, sgdC, rcpC, hm.h0, hm.h1, hm.go, hm.sec, hm.j, hm.rh, hm.rb, zc78, zc82, zc54, length_zsum]; done) | (simp [cat, msgC, jbC, sgdC, rcpC, hm.h0, hm.h1, hm.go, hm.sec, hm.j, hm.rh, hm.rb, zc78, zc82, zc54, length_zsum]; omega) | rfl)) rfl hS ?_
          refine q_val (fun w hS => e_field rfl Try.underlying84 rfl sz80 (by decide)) rfl hS ?_
          refine q_val (fun w hS => e_field rfl Try.underlying80 rfl sz3 (by decide)) rfl hS ?_
          refine q_val (fun w hS => e_loadF1 (i := 8) (off := 70) rfl ag3 hS (j := 2) rfl rfl rfl (by first | with_reducible assumption | (rw [bv_length]; with_reducible assumption) | (rw [List.size_toArray, bv_length]; with_reducible assumption) | (simp [cat, msgC, jbC, sgdC, rcpC, hm.h0, hm.h1, hm.go, hm.sec, hm.j, hm.rh, hm.rb, zc78, zc82, zc54, length_zsum]; done) | (simp [cat, msgC, jbC, sgdC, rcpC, hm.h0, hm.h1, hm.go, hm.sec, hm.j, hm.rh, hm.rb, zc78, zc82, zc54, length_zsum]; omega) | rfl)) rfl hS ?_
          refine q_val (fun w hS => e_field rfl Try.underlying84 rfl sz80 (by decide)) rfl hS ?_
          refine q_val (fun w hS => e_field rfl Try.underlying80 rfl sz44 (by decide)) rfl hS ?_
          refine q_val (fun w hS => e_loadFA (i := 9) (off := 71) rfl ag44 sz44 (by decide) hS (j := 2) rfl rfl rfl (by first | with_reducible assumption | (rw [bv_length]; with_reducible assumption) | (rw [List.size_toArray, bv_length]; with_reducible assumption) | (simp [cat, msgC, jbC, sgdC, rcpC, hm.h0, hm.h1, hm.go, hm.sec, hm.j, hm.rh, hm.rb, zc78, zc82, zc54, length_zsum]; done) | (simp [cat, msgC, jbC, sgdC, rcpC, hm.h0, hm.h1, hm.go, hm.sec, hm.j, hm.rh, hm.rb, zc78, zc82, zc54, length_zsum]; omega) | rfl) (by first | with_reducible assumption | (rw [bv_length]; with_reducible assumption) | (rw [List.size_toArray, bv_length]; with_reducible assumption) | (simp [cat, msgC, jbC, sgdC, rcpC, hm.h0, hm.h1, hm.go, hm.sec, hm.j, hm.rh, hm.rb, zc78, zc82, zc54, length_zsum]; done) | (simp [cat, msgC, jbC, sgdC, rcpC, hm.h0, hm.h1, hm.go, hm.sec, hm.j, hm.rh, hm.rb, zc78, zc82, zc54, length_zsum]; omega) | rfl)) rfl hS ?_
          refine q_does (d_call Try.func56 nm56 rfl rfl (pen_num _ _ _ _ _ _ (S.hr [2, 3] rfl) (by first | omega | (simp only [List.length_append, List.length_cons, List.length_nil, bv_length, msgC, jbC, sgdC, rcpC, hm.h0, hm.h1, hm.go, hm.sec, hm.j, hm.rh, hm.rb, zc78, zc82, zc54, length_zsum]; omega) | (simp [cat, msgC, jbC, sgdC, rcpC, hm.h0, hm.h1, hm.go, hm.sec, hm.j, hm.rh, hm.rb, zc78, zc82, zc54, length_zsum]; omega)))) rfl ?_
          rintro _ w ⟨rfl, k55, c55, T⟩
          have S := (S.call [2, 3] T rfl).pk [2, 3, 0, 1, 6] rfl
          have hS := S.pk [0, 1, 4] rfl
          refine ⟨hS, ?_⟩
          refine q_does (d_call Try.func57 nm57 rfl rfl (pen_sum _ _ _ _ _ _ (S.hr [2, 3] rfl) (by first | with_reducible assumption | (rw [bv_length]; with_reducible assumption) | (rw [List.size_toArray, bv_length]; with_reducible assumption) | (simp [cat, msgC, jbC, sgdC, rcpC, hm.h0, hm.h1, hm.go, hm.sec, hm.j, hm.rh, hm.rb, zc78, zc82, zc54, length_zsum]; done) | (simp [cat, msgC, jbC, sgdC, rcpC, hm.h0, hm.h1, hm.go, hm.sec, hm.j, hm.rh, hm.rb, zc78, zc82, zc54, length_zsum]; omega) | rfl) (by first | omega | (simp only [List.length_append, List.length_cons, List.length_nil, bv_length, msgC, jbC, sgdC, rcpC, hm.h0, hm.h1, hm.go, hm.sec, hm.j, hm.rh, hm.rb, zc78, zc82, zc54, length_zsum]; omega) | (simp [cat, msgC, jbC, sgdC, rcpC, hm.h0, hm.h1, hm.go, hm.sec, hm.j, hm.rh, hm.rb, zc78, zc82, zc54, length_zsum]; omega)))) rfl ?_
          rintro _ w ⟨rfl, k58, c58, T⟩
          have S := (S.call [2, 3] T rfl).pk [2, 3, 0, 1, 6] rfl
          have hS := S.pk [0, 1, 4] rfl
          refine ⟨hS, ?_⟩
          refine q_does (d_call Try.func56 nm56 rfl rfl (pen_num _ _ _ _ _ _ (S.hr [2, 3] rfl) (by first | omega | (simp only [List.length_append, List.length_cons, List.length_nil, bv_length, msgC, jbC, sgdC, rcpC, hm.h0, hm.h1, hm.go, hm.sec, hm.j, hm.rh, hm.rb, zc78, zc82, zc54, length_zsum]; omega) | (simp [cat, msgC, jbC, sgdC, rcpC, hm.h0, hm.h1, hm.go, hm.sec, hm.j, hm.rh, hm.rb, zc78, zc82, zc54, length_zsum]; omega)))) rfl ?_
          rintro _ w ⟨rfl, k62, c62, T⟩
          have S := (S.call [2, 3] T rfl).pk [2, 3, 0, 1, 6] rfl
          have hS := S.pk [0, 1, 4] rfl
          refine ⟨hS, ?_⟩
          refine q_does (d_call Try.func57 nm57 rfl rfl (pen_sum _ _ _ _ _ _ (S.hr [2, 3] rfl) (by first | with_reducible assumption | (rw [bv_length]; with_reducible assumption) | (rw [List.size_toArray, bv_length]; with_reducible assumption) | (simp [cat, msgC, jbC, sgdC, rcpC, hm.h0, hm.h1, hm.go, hm.sec, hm.j, hm.rh, hm.rb, zc78, zc82, zc54, length_zsum]; done) | (simp [cat, msgC, jbC, sgdC, rcpC, hm.h0, hm.h1, hm.go, hm.sec, hm.j, hm.rh, hm.rb, zc78, zc82, zc54, length_zsum]; omega) | rfl) (by first | omega | (simp only [List.length_append, List.length_cons, List.length_nil, bv_length, msgC, jbC, sgdC, rcpC, hm.h0, hm.h1, hm.go, hm.sec, hm.j, hm.rh, hm.rb, zc78, zc82, zc54, length_zsum]; omega) | (simp [cat, msgC, jbC, sgdC, rcpC, hm.h0, hm.h1, hm.go, hm.sec, hm.j, hm.rh, hm.rb, zc78, zc82, zc54, length_zsum]; omega)))) rfl ?_
          rintro _ w ⟨rfl, k66, c66, T⟩
          have S := (S.call [2, 3] T rfl).pk [2, 3, 0, 1, 6] rfl
          have hS := S.pk [0, 1, 4] rfl
          refine ⟨hS, ?_⟩
          refine q_nil (p_nil (x_in ?_))
          exact x_then ⟨_, rfl, _, _, _, _, upds_eq ⟨rfl, trivial⟩, by simp [tput, tbody, hc51, nums], S⟩
        · refine s_seq (s_plain ?_)
          refine p_val (e_eql rfl rfl) rfl ?_
          refine p_val (e_assign (v := .bool _) rfl) rfl ?_
          refine p_nil (x_then ?_)
          refine s_cond rfl (fun hc67 => ?_) (fun hc67 => ?_)
          · refine s_drawK (ks := [some b5, some b15, some b1]) (ps := [Ex _ _, Rw _ _ _ _ _, Ex _ _]) (S.pk [0, 1, 4] rfl) [(true, 0), (true, 1), (true, 3), (true, 4), (false, 2), (false, 5)] [] [] mixed (by kernel_rfl) (by repeat (first | exact Calm.post _ _ _ | refine Calm.then ?_ _ | refine Calm.inB ?_ _)) (fun hS => ?_)
            have S := S.drew
            refine q_val (fun w hS => e_field rfl Try.underlying84 rfl sz3 (by decide)) rfl hS ?_
            refine q_val (fun w hS => e_loadF1 (i := 10) (off := 103) rfl ag3 hS (j := 2) rfl rfl rfl (by first | with_reducible assumption | (rw [bv_length]; with_reducible assumption) | (rw [List.size_toArray, bv_length]; with_reducible assumption) | (simp [cat, msgC, jbC, sgdC, rcpC, hm.h0, hm.h1, hm.go, hm.sec, hm.j, hm.rh, hm.rb, zc78, zc82, zc54, length_zsum]; done) | (simp [cat, msgC, jbC, sgdC, rcpC, hm.h0, hm.h1, hm.go, hm.sec, hm.j, hm.rh, hm.rb, zc78, zc82, zc54, length_zsum]; omega) | rfl)) rfl hS ?_
            refine q_val (fun w hS => e_field rfl Try.underlying84 rfl sz44 (by decide)) rfl hS ?_
            refine q_val (fun w hS => e_loadFA (i := 11) (off := 104) rfl ag44 sz44 (by decide) hS (j := 2) rfl rfl rfl (by first | with_reducible assumption | (rw [bv_length]; with_reducible assumption) | (rw [List.size_toArray, bv_length]; with_reducible assumption) | (simp [cat, msgC, jbC, sgdC, rcpC, hm.h0, hm.h1, hm.go, hm.sec, hm.j, hm.rh, hm.rb, zc78, zc82, zc54, length_zsum]; done) | (simp [cat, msgC, jbC, sgdC, rcpC, hm.h0, hm.h1, hm.go, hm.sec, hm.j, hm.rh, hm.rb, zc78, zc82, zc54, length_zsum]; omega) | rfl) (by first | with_reducible assumption | (rw [bv_length]; with_reducible assumption) | (rw [List.size_toArray, bv_length]; with_reducible assumption) | (simp [cat, msgC, jbC, sgdC, rcpC, hm.h0, hm.h1, hm.go, hm.sec, hm.j, hm.rh, hm.rb, zc78, zc82, zc54, length_zsum]; done) | (simp [cat, msgC, jbC, sgdC, rcpC, hm.h0, hm.h1, hm.go, hm.sec, hm.j, hm.rh, hm.rb, zc78, zc82, zc54, length_zsum]; omega) | rfl)) rfl hS ?_
            refine q_does (d_call Try.func56 nm56 rfl rfl (pen_num _ _ _ _ _ _ (S.hr [2, 3] rfl) (by first | omega | (simp only [List.length_append, List.length_cons, List.length_nil, bv_length, msgC, jbC, sgdC, rcpC, hm.h0, hm.h1, hm.go, hm.sec, hm.j, hm.rh, hm.rb, zc78, zc82, zc54, length_zsum]; omega) | (simp [cat, msgC, jbC, sgdC, rcpC, hm.h0, hm.h1, hm.go, hm.sec, hm.j, hm.rh, hm.rb, zc78, zc82, zc54, length_zsum]; omega)))) rfl ?_
            rintro _ w ⟨rfl, k71, c71, T⟩
            have S := (S.call [2, 3] T rfl).pk [2, 3, 0, 1, 6] rfl
            have hS := S.pk [0, 1, 4] rfl
            refine ⟨hS, ?_⟩
            refine q_does (d_call Try.func57 nm57 rfl rfl (pen_sum _ _ _ _ _ _ (S.hr [2, 3] rfl) (by first | with_reducible assumption | (rw [bv_length]; with_reducible assumption) | (rw [List.size_toArray, bv_length]; with_reducible assumption) | (simp [cat, msgC, jbC, sgdC, rcpC, hm.h0, hm.h1, hm.go, hm.sec, hm.j, hm.rh, hm.rb, zc78, zc82, zc54, length_zsum]; done) | (simp [cat, msgC, jbC, sgdC, rcpC, hm.h0, hm.h1, hm.go, hm.sec, hm.j, hm.rh, hm.rb, zc78, zc82, zc54, length_zsum]; omega) | rfl) (by first | omega | (simp only [List.length_append, List.length_cons, List.length_nil, bv_length, msgC, jbC, sgdC, rcpC, hm.h0, hm.h1, hm.go, hm.sec, hm.j, hm.rh, hm.rb, zc78, zc82, zc54, length_zsum]; omega) | (simp [cat, msgC, jbC, sgdC, rcpC, hm.h0, hm.h1, hm.go, hm.sec, hm.j, hm.rh, hm.rb, zc78, zc82, zc54, length_zsum]; omega)))) rfl ?_
            rintro _ w ⟨rfl, k74, c74, T⟩
            have S := (S.call [2, 3] T rfl).pk [2, 3, 0, 1, 6] rfl
            have hS := S.pk [0, 1, 4] rfl
            refine ⟨hS, ?_⟩
            refine q_nil (p_nil (x_in ?_))
            exact x_then ⟨_, rfl, _, _, _, _, upds_eq ⟨rfl, trivial⟩, by simp [tput, tbody, hc67, nums], S⟩
          · refine s_seq (s_plain ?_)
            refine p_val (e_eql rfl rfl) rfl ?_
            refine p_val (e_assign (v := .bool _) rfl) rfl ?_
            refine p_nil (x_then ?_)
            refine s_cond rfl (fun hc75 => ?_) (fun hc75 => ?_)
            · refine s_plain ?_
              refine p_val (e_field rfl Try.underlying84 rfl sz82 (by decide)) rfl ?_
              refine p_val (e_loadFS (i := 12) (n := 4) (off := 136) rfl ag82 sz82 (by decide) S (j := 4) rfl rfl (by first | with_reducible assumption | (rw [bv_length]; with_reducible assumption) | (rw [List.size_toArray, bv_length]; with_reducible assumption) | (simp [cat, msgC, jbC, sgdC, rcpC, hm.h0, hm.h1, hm.go, hm.sec, hm.j, hm.rh, hm.rb, zc78, zc82, zc54, length_zsum]; done) | (simp [cat, msgC, jbC, sgdC, rcpC, hm.h0, hm.h1, hm.go, hm.sec, hm.j, hm.rh, hm.rb, zc78, zc82, zc54, length_zsum]; omega) | rfl) (by first | with_reducible assumption | (rw [bv_length]; with_reducible assumption) | (rw [List.size_toArray, bv_length]; with_reducible assumption) | (simp [cat, msgC, jbC, sgdC, rcpC, hm.h0, hm.h1, hm.go, hm.sec, hm.j, hm.rh, hm.rb, zc78, zc82, zc54, length_zsum]; done) | (simp [cat, msgC, jbC, sgdC, rcpC, hm.h0, hm.h1, hm.go, hm.sec, hm.j, hm.rh, hm.rb, zc78, zc82, zc54, length_zsum]; omega) | rfl)) rfl ?_
              refine p_does (d_call Try.func67 nm67 rfl rfl (jb_put _ m.j _ _ b hj (S.rdOld RB rfl) (by first | omega | (simp only [List.length_append, List.length_cons, List.length_nil, bv_length, msgC, jbC, sgdC, rcpC, hm.h0, hm.h1, hm.go, hm.sec, hm.j, hm.rh, hm.rb, zc78, zc82, zc54, length_zsum]; omega) | (simp [cat, msgC, jbC, sgdC, rcpC, hm.h0, hm.h1, hm.go, hm.sec, hm.j, hm.rh, hm.rb, zc78, zc82, zc54, length_zsum]; omega)))) rfl ?_
              rintro _ w ⟨k79, c79, rfl, T⟩
              have S := S.merge T rfl
              refine p_does (d_call Try.func25 nm25 rfl rfl (pen_text _ _ _ _ _ _ _ _ _ (S.hr [3, 4] rfl) (S.rdRw 0 rfl rfl) (S.offRow 0 [3, 4] rfl rfl) (by first | omega | (simp only [List.length_append, List.length_cons, List.length_nil, bv_length, msgC, jbC, sgdC, rcpC, hm.h0, hm.h1, hm.go, hm.sec, hm.j, hm.rh, hm.rb, zc78, zc82, zc54, length_zsum]; omega) | (simp [cat, msgC, jbC, sgdC, rcpC, hm.h0, hm.h1, hm.go, hm.sec, hm.j, hm.rh, hm.rb, zc78, zc82, zc54, length_zsum]; omega)))) rfl ?_
              rintro _ w ⟨rfl, k80, c80, T⟩
              have S := (S.call [3, 4] T rfl).pk [2, 3, 4, 0, 1, 7] rfl
              refine p_nil (x_in ?_)
              exact x_then ⟨_, rfl, _, _, _, _, upds_eq ⟨rfl, trivial⟩, by simp [tput, tbody, hc75, nums], S.pk [1, 2, 3, 4, 5] rfl⟩
            · refine s_plain ?_
              refine p_val (e_field rfl Try.underlying84 rfl sz54 (by decide)) rfl ?_
              refine p_val (e_loadFS (i := 16) (n := 6) (off := 171) rfl ag54 sz54 (by decide) S (j := 4) rfl rfl (by first | with_reducible assumption | (rw [bv_length]; with_reducible assumption) | (rw [List.size_toArray, bv_length]; with_reducible assumption) | (simp [cat, msgC, jbC, sgdC, rcpC, hm.h0, hm.h1, hm.go, hm.sec, hm.j, hm.rh, hm.rb, zc78, zc82, zc54, length_zsum]; done) | (simp [cat, msgC, jbC, sgdC, rcpC, hm.h0, hm.h1, hm.go, hm.sec, hm.j, hm.rh, hm.rb, zc78, zc82, zc54, length_zsum]; omega) | rfl) (by first | with_reducible assumption | (rw [bv_length]; with_reducible assumption) | (rw [List.size_toArray, bv_length]; with_reducible assumption) | (simp [cat, msgC, jbC, sgdC, rcpC, hm.h0, hm.h1, hm.go, hm.sec, hm.j, hm.rh, hm.rb, zc78, zc82, zc54, length_zsum]; done) | (simp [cat, msgC, jbC, sgdC, rcpC, hm.h0, hm.h1, hm.go, hm.sec, hm.j, hm.rh, hm.rb, zc78, zc82, zc54, length_zsum]; omega) | rfl)) rfl ?_
              refine p_does (d_call Try.func28 nm28 rfl rfl (sg_put _ m.r _ _ s hr (S.rdOld RS rfl) (by first | omega | (simp only [List.length_append, List.length_cons, List.length_nil, bv_length, msgC, jbC, sgdC, rcpC, hm.h0, hm.h1, hm.go, hm.sec, hm.j, hm.rh, hm.rb, zc78, zc82, zc54, length_zsum]; omega) | (simp [cat, msgC, jbC, sgdC, rcpC, hm.h0, hm.h1, hm.go, hm.sec, hm.j, hm.rh, hm.rb, zc78, zc82, zc54, length_zsum]; omega)))) rfl ?_
              rintro _ w ⟨k23, c23, rfl, T⟩
              have S := S.merge T rfl
              refine p_does (d_call Try.func25 nm25 rfl rfl (pen_text _ _ _ _ _ _ _ _ _ (S.hr [3, 4] rfl) (S.rdRw 0 rfl rfl) (S.offRow 0 [3, 4] rfl rfl) (by first | omega | (simp only [List.length_append, List.length_cons, List.length_nil, bv_length, msgC, jbC, sgdC, rcpC, hm.h0, hm.h1, hm.go, hm.sec, hm.j, hm.rh, hm.rb, zc78, zc82, zc54, length_zsum]; omega) | (simp [cat, msgC, jbC, sgdC, rcpC, hm.h0, hm.h1, hm.go, hm.sec, hm.j, hm.rh, hm.rb, zc78, zc82, zc54, length_zsum]; omega)))) rfl ?_
              rintro _ w ⟨rfl, k24, c24, T⟩
              have S := (S.call [3, 4] T rfl).pk [2, 3, 4, 0, 1, 7] rfl
              refine p_nil (x_in ?_)
              exact x_then ⟨_, rfl, _, _, _, _, upds_eq ⟨rfl, trivial⟩, by simp [tput, tbody, hc25, hc51, hc67, hc75, nums], S.pk [1, 2, 3, 4, 5] rfl⟩
    · rintro f w ⟨u, Kp4, Cp4, q, rfl, hq, S⟩
      have hql : q.length ≤ 300 + b.length + s.length := by rw [hq]; exact tput_len hm
      refine x_then (s_seq (s_plain ?_))
      refine p_does (d_call Try.func26 nm26 rfl rfl (pen_bytes _ _ _ _ _ (S.exact_ 2 rfl rfl) (S.rdRw 3 rfl rfl) (by first | omega | (simp only [List.length_append, List.length_cons, List.length_nil, bv_length, msgC, jbC, sgdC, rcpC, hm.h0, hm.h1, hm.go, hm.sec, hm.j, hm.rh, hm.rb, zc78, zc82, zc54, length_zsum]; omega) | (simp [cat, msgC, jbC, sgdC, rcpC, hm.h0, hm.h1, hm.go, hm.sec, hm.j, hm.rh, hm.rb, zc78, zc82, zc54, length_zsum]; omega)))) rfl ?_
      rintro _ w ⟨k81, c81, rfl, T⟩
      have S := S.merge T rfl
      refine p_val (e_assign (v := .slice _ _ _) rfl) rfl ?_
      refine p_val (e_assign (v := .int _ _) rfl) rfl ?_
      refine p_nil (x_then (s_ret ?_))
      exact post2 (v := .slice _ _ _) (x := .int _ _) Try.results44 rfl rfl (⟨_, _, q, _, rfl, fun _ => ⟨hq, rfl⟩, fun h => absurd hyes h, S.pk [0] rfl⟩)
theorem l28bytes (w0 : World) (m : Msg) (A1 : Option Addr) (x1 : Nat) (b : List Nat) (A2 : Option Addr) (x2 : Nat) (s : List Nat) (hm : m.ok) (RB : Rd w0 1 A1 b.length (bv b)) (RS : Rd w0 1 A2 s.length (bv s)) (nB : b.length ≤ 1000000000) (nS : s.length ≤ 1000000000) :
    Ret Try.prog 48 [.agg (cat (msgC m A1 b.length x1 A2 s.length x2)).toArray] w0 fun v w' => ∃ k c, v = .slice (at_ k) (tput m b s).length c ∧ St w0 w' [] [k] [Rw 5 1 (tput m b s).length c (bv (tput m b s))] := by
  refine enter Try.func48 rfl Try.ntmps48 (Nat.le_of_ble_eq_true rfl) ?_
  have S := St.init w0
  have hr : m.r.ok := ⟨hm.rh, hm.rb⟩
  have hj : m.j.ok := hm.j
  have hn1 := nums_len [m.k, m.f, m.t]
  have hn2 := nums_len [m.n, m.c, m.p]
  simp only [List.length_cons, List.length_nil] at hn1 hn2
  have hn3 := num_len m.gk
  have hn4 := num_len m.m
  have hn5 := jput_len (b := b) hj
  have hn6 := sput_len (s := s) hr
  have hn7 := num_len ((jput m.j b).length : Int)
  have hn8 := num_len ((sput m.r s).length : Int)
  have e0 := hm.h0
  have e1 := hm.h1
  have e2 := hm.go
  have e3 := hm.sec
  have k1 := num_len m.k
  have k2 := num_len m.f
  have k3 := num_len m.t
  have k4 := num_len m.n
  have k5 := num_len m.c
  have k6 := num_len m.p
  refine s_seq (s_plain ?_)
  refine p_does (d_boxA S rfl) rfl ?_
  rintro _ w ⟨b1, rfl, S⟩
  refine p_val (e_assign (v := .slice _ _ _) rfl) rfl ?_
  refine p_nil (x_then (s_seq (s_plain ?_)))
  refine p_does (d_allocA S zs56) rfl ?_
  rintro _ w ⟨b3, rfl, S⟩
  have S := pen_new S
  refine p_nil (x_then (s_seq ?_))
  refine s_drawK (ks := [some b1]) (ps := [Ex _ _]) (S.pk [2] rfl) [(true, 0), (true, 1), (true, 3), (true, 4), (true, 6), (true, 7), (false, 2), (false, 5), (false, 8)] [] [] mixed (by kernel_rfl) (by repeat (first | exact Calm.post _ _ _ | refine Calm.then ?_ _ | refine Calm.inB ?_ _)) (fun hS => ?_)
  have S := S.drew
  refine q_val (fun w hS => e_field rfl Try.underlying84 rfl sz3 (by decide)) rfl hS ?_
  refine q_val (fun w hS => e_loadF1 (i := 0) (off := 0) rfl ag3 hS (j := 0) rfl rfl rfl (by first | with_reducible assumption | (rw [bv_length]; with_reducible assumption) | (rw [List.size_toArray, bv_length]; with_reducible assumption) | (simp [cat, msgC, jbC, sgdC, rcpC, hm.h0, hm.h1, hm.go, hm.sec, hm.j, hm.rh, hm.rb, zc78, zc82, zc54, length_zsum]; done) | (simp [cat, msgC, jbC, sgdC, rcpC, hm.h0, hm.h1, hm.go, hm.sec, hm.j, hm.rh, hm.rb, zc78, zc82, zc54, length_zsum]; omega) | rfl)) rfl hS ?_
  refine q_val (fun w hS => e_field rfl Try.underlying84 rfl sz3 (by decide)) rfl hS ?_
  refine q_val (fun w hS => e_loadF1 (i := 1) (off := 1) rfl ag3 hS (j := 0) rfl rfl rfl (by first | with_reducible assumption | (rw [bv_length]; with_reducible assumption) | (rw [List.size_toArray, bv_length]; with_reducible assumption) | (simp [cat, msgC, jbC, sgdC, rcpC, hm.h0, hm.h1, hm.go, hm.sec, hm.j, hm.rh, hm.rb, zc78, zc82, zc54, length_zsum]; done) | (simp [cat, msgC, jbC, sgdC, rcpC, hm.h0, hm.h1, hm.go, hm.sec, hm.j, hm.rh, hm.rb, zc78, zc82, zc54, length_zsum]; omega) | rfl)) rfl hS ?_
  refine q_val (fun w hS => e_field rfl Try.underlying84 rfl sz3 (by decide)) rfl hS ?_
  refine q_val (fun w hS => e_loadF1 (i := 2) (off := 2) rfl ag3 hS (j := 0) rfl rfl rfl (by first | with_reducible assumption | (rw [bv_length]; with_reducible assumption) | (rw [List.size_toArray, bv_length]; with_reducible assumption) | (simp [cat, msgC, jbC, sgdC, rcpC, hm.h0, hm.h1, hm.go, hm.sec, hm.j, hm.rh, hm.rb, zc78, zc82, zc54, length_zsum]; done) | (simp [cat, msgC, jbC, sgdC, rcpC, hm.h0, hm.h1, hm.go, hm.sec, hm.j, hm.rh, hm.rb, zc78, zc82, zc54, length_zsum]; omega) | rfl)) rfl hS ?_
  refine q_does (d_call Try.func56 nm56 rfl rfl (pen_num _ _ _ _ _ _ (S.hr [0, 1] rfl) (by first | omega | (simp only [List.length_append, List.length_cons, List.length_nil, bv_length, msgC, jbC, sgdC, rcpC, hm.h0, hm.h1, hm.go, hm.sec, hm.j, hm.rh, hm.rb, zc78, zc82, zc54, length_zsum]; omega) | (simp [cat, msgC, jbC, sgdC, rcpC, hm.h0, hm.h1, hm.go, hm.sec, hm.j, hm.rh, hm.rb, zc78, zc82, zc54, length_zsum]; omega)))) rfl ?_
  rintro _ w ⟨rfl, k6, c6, T⟩
  have S := (S.call [0, 1] T rfl).pk [0, 1, 4] rfl
  have hS := S.pk [2] rfl
  refine ⟨hS, ?_⟩
  refine q_does (d_call Try.func56 nm56 rfl rfl (pen_num _ _ _ _ _ _ (S.hr [0, 1] rfl) (by first | omega | (simp only [List.length_append, List.length_cons, List.length_nil, bv_length, msgC, jbC, sgdC, rcpC, hm.h0, hm.h1, hm.go, hm.sec, hm.j, hm.rh, hm.rb, zc78, zc82, zc54, length_zsum]; omega) | (simp [cat, msgC, jbC, sgdC, rcpC, hm.h0, hm.h1, hm.go, hm.sec, hm.j, hm.rh, hm.rb, zc78, zc82, zc54, length_zsum]; omega)))) rfl ?_
  rintro _ w ⟨rfl, k9, c9, T⟩
  have S := (S.call [0, 1] T rfl).pk [0, 1, 4] rfl
  have hS := S.pk [2] rfl
  refine ⟨hS, ?_⟩
  refine q_does (d_call Try.func56 nm56 rfl rfl (pen_num _ _ _ _ _ _ (S.hr [0, 1] rfl) (by first | omega | (simp only [List.length_append, List.length_cons, List.length_nil, bv_length, msgC, jbC, sgdC, rcpC, hm.h0, hm.h1, hm.go, hm.sec, hm.j, hm.rh, hm.rb, zc78, zc82, zc54, length_zsum]; omega) | (simp [cat, msgC, jbC, sgdC, rcpC, hm.h0, hm.h1, hm.go, hm.sec, hm.j, hm.rh, hm.rb, zc78, zc82, zc54, length_zsum]; omega)))) rfl ?_
  rintro _ w ⟨rfl, k12, c12, T⟩
  have S := (S.call [0, 1] T rfl).pk [0, 1, 4] rfl
  have hS := S.pk [2] rfl
  refine ⟨hS, ?_⟩
  refine q_nil (p_nil (x_then (s_seq ?_)))
  refine s_cutK (ks := [some b3, k12, some b1]) (ps := [Ex _ _, Rw _ _ _ _ _, Ex _ _]) [(3, .pointer _)] ⟨rfl, trivial⟩ S (fun keep ks ps f' w' => ∃ u Kp3 Cp3 q, f' = upds u (keep) ∧ (q = tput m b s) ∧ St w0 w' [] [some b3, Kp3, some b1] [penE Kp3 Cp3 q, Rw 5 1 ((List.length q)) Cp3 (bv q), (ps.getD 2 fun _ => True)]) ?_ ?_
  · refine s_seq (s_plain ?_)
    refine p_val (e_field rfl Try.underlying84 rfl sz3 (by decide)) rfl ?_
    refine p_val (e_loadF1 (i := 0) (off := 0) rfl ag3 S (j := 2) rfl rfl rfl (by first | with_reducible assumption | (rw [bv_length]; with_reducible assumption) | (rw [List.size_toArray, bv_length]; with_reducible assumption) | (simp [cat, msgC, jbC, sgdC, rcpC, hm.h0, hm.h1, hm.go, hm.sec, hm.j, hm.rh, hm.rb, zc78, zc82, zc54, length_zsum]; done) | (simp [cat, msgC, jbC, sgdC, rcpC, hm.h0, hm.h1, hm.go, hm.sec, hm.j, hm.rh, hm.rb, zc78, zc82, zc54, length_zsum]; omega) | rfl)) rfl ?_
    refine p_nil (x_then (s_block (s_seq (s_plain ?_))))
    refine p_val (e_eql rfl rfl) rfl ?_
    refine p_val (e_assign (v := .bool _) rfl) rfl ?_
    refine p_nil (x_then ?_)
    refine s_cond rfl (fun hc19 => ?_) (fun hc19 => ?_)
    · refine s_drawK (ks := [some b1]) (ps := [Ex _ _]) (S.pk [2] rfl) [(true, 0), (true, 1), (true, 2), (true, 4), (true, 5), (true, 6), (true, 8), (true, 9), (true, 10), (true, 12), (true, 13), (true, 14), (true, 15), (true, 17), (true, 18), (true, 19), (true, 20), (true, 22), (true, 23), (true, 24), (true, 26), (true, 27), (true, 28), (false, 3), (false, 7), (false, 11), (false, 16), (false, 21), (false, 25), (false, 29)] [] [] mixed (by kernel_rfl) (by repeat (first | exact Calm.post _ _ _ | refine Calm.then ?_ _ | refine Calm.inB ?_ _)) (fun hS => ?_)
      have S := S.drew
      refine q_val (fun w hS => e_field rfl Try.underlying84 rfl sz78 (by decide)) rfl hS ?_
      refine q_val (fun w hS => e_field rfl Try.underlying78 rfl sz3 (by decide)) rfl hS ?_
      refine q_val (fun w hS => e_loadF1 (i := 3) (off := 3) rfl ag3 hS (j := 0) rfl rfl rfl (by first | with_reducible assumption | (rw [bv_length]; with_reducible assumption) | (rw [List.size_toArray, bv_length]; with_reducible assumption) | (simp [cat, msgC, jbC, sgdC, rcpC, hm.h0, hm.h1, hm.go, hm.sec, hm.j, hm.rh, hm.rb, zc78, zc82, zc54, length_zsum]; done) | (simp [cat, msgC, jbC, sgdC, rcpC, hm.h0, hm.h1, hm.go, hm.sec, hm.j, hm.rh, hm.rb, zc78, zc82, zc54, length_zsum]; omega) | rfl)) rfl hS ?_
      refine q_val (fun w hS => e_field rfl Try.underlying84 rfl sz78 (by decide)) rfl hS ?_
      refine q_val (fun w hS => e_field rfl Try.underlying78 rfl sz2 (by decide)) rfl hS ?_
      refine q_val (fun w hS => e_loadF1 (i := 4) (off := 4) rfl ag2 hS (j := 0) rfl rfl rfl (by first | with_reducible assumption | (rw [bv_length]; with_reducible assumption) | (rw [List.size_toArray, bv_length]; with_reducible assumption) | (simp [cat, msgC, jbC, sgdC, rcpC, hm.h0, hm.h1, hm.go, hm.sec, hm.j, hm.rh, hm.rb, zc78, zc82, zc54, length_zsum]; done) | (simp [cat, msgC, jbC, sgdC, rcpC, hm.h0, hm.h1, hm.go, hm.sec, hm.j, hm.rh, hm.rb, zc78, zc82, zc54, length_zsum]; omega) | rfl)) rfl hS ?_
      refine q_val (fun w hS => e_field rfl Try.underlying84 rfl sz78 (by decide)) rfl hS ?_
      refine q_val (fun w hS => e_field rfl Try.underlying78 rfl sz2 (by decide)) rfl hS ?_
      refine q_val (fun w hS => e_loadF1 (i := 5) (off := 5) rfl ag2 hS (j := 0) rfl rfl rfl (by first | with_reducible assumption | (rw [bv_length]; with_reducible assumption) | (rw [List.size_toArray, bv_length]; with_reducible assumption) | (simp [cat, msgC, jbC, sgdC, rcpC, hm.h0, hm.h1, hm.go, hm.sec, hm.j, hm.rh, hm.rb, zc78, zc82, zc54, length_zsum]; done) | (simp [cat, msgC, jbC, sgdC, rcpC, hm.h0, hm.h1, hm.go, hm.sec, hm.j, hm.rh, hm.rb, zc78, zc82, zc54, length_zsum]; omega) | rfl)) rfl hS ?_
      refine q_val (fun w hS => e_field rfl Try.underlying84 rfl sz78 (by decide)) rfl hS ?_
      refine q_val (fun w hS => e_field rfl Try.underlying78 rfl sz76 (by decide)) rfl hS ?_
      refine q_val (fun w hS => e_ix_arr rfl rfl Try.underlying76 sz44 (by omega)) rfl hS ?_
      refine q_val (fun w hS => e_loadFA (i := 6) (off := 6) rfl ag44 sz44 (by decide) hS (j := 0) rfl rfl rfl (by first | with_reducible assumption | (rw [bv_length]; with_reducible assumption) | (rw [List.size_toArray, bv_length]; with_reducible assumption) | (simp [cat, msgC, jbC, sgdC, rcpC, hm.h0, hm.h1, hm.go, hm.sec, hm.j, hm.rh, hm.rb, zc78, zc82, zc54, length_zsum]; done) | (simp [cat, msgC, jbC, sgdC, rcpC, hm.h0, hm.h1, hm.go, hm.sec, hm.j, hm.rh, hm.rb, zc78, zc82, zc54, length_zsum]; omega) | rfl) (by first | with_reducible assumption | (rw [bv_length]; with_reducible assumption) | (rw [List.size_toArray, bv_length]; with_reducible assumption) | (simp [cat, msgC, jbC, sgdC, rcpC, hm.h0, hm.h1, hm.go, hm.sec, hm.j, hm.rh, hm.rb, zc78, zc82, zc54, length_zsum]; done) | (simp [cat, msgC, jbC, sgdC, rcpC, hm.h0, hm.h1, hm.go, hm.sec, hm.j, hm.rh, hm.rb, zc78, zc82, zc54, length_zsum]; omega) | rfl)) rfl hS ?_
      refine q_val (fun w hS => e_field rfl Try.underlying84 rfl sz78 (by decide)) rfl hS ?_
      refine q_val (fun w hS => e_field rfl Try.underlying78 rfl sz76 (by decide)) rfl hS ?_
      refine q_val (fun w hS => e_ix_arr rfl rfl Try.underlying76 sz44 (by omega)) rfl hS ?_
      refine q_val (fun w hS => e_loadFA (i := 7) (off := 38) rfl ag44 sz44 (by decide) hS (j := 0) rfl rfl rfl (by first | with_reducible assumption | (rw [bv_length]; with_reducible assumption) | (rw [List.size_toArray, bv_length]; with_reducible assumption) | (simp [cat, msgC, jbC, sgdC, rcpC, hm.h0, hm.h1, hm.go, hm.sec, hm.j, hm.rh, hm.rb, zc78, zc82, zc54, length_zsum]; done) | (simp [cat, msgC, jbC, sgdC, rcpC, hm.h0, hm.h1, hm.go, hm.sec, hm.j, hm.rh, hm.rb, zc78, zc82, zc54, length_zsum]; omega) | rfl) (by first | with_reducible assumption | (rw [bv_length]; with_reducible assumption) | (rw [List.size_toArray, bv_length]; with_reducible assumption) | (simp [cat, msgC, jbC, sgdC, rcpC, hm.h0, hm.h1, hm.go, hm.sec, hm.j, hm.rh, hm.rb, zc78, zc82, zc54, length_zsum]; done) | (simp [cat, msgC, jbC, sgdC, rcpC, hm.h0, hm.h1, hm.go, hm.sec, hm.j, hm.rh, hm.rb, zc78, zc82, zc54, length_zsum]; omega) | rfl)) rfl hS ?_
      refine q_val (fun w hS => e_field rfl Try.underlying84 rfl sz80 (by decide)) rfl hS ?_
      refine q_val (fun w hS => e_field rfl Try.underlying80 rfl sz3 (by decide)) rfl hS ?_
      refine q_val (fun w hS => e_loadF1 (i := 8) (off := 70) rfl ag3 hS (j := 0) rfl rfl rfl (by first | with_reducible assumption | (rw [bv_length]; with_reducible assumption) | (rw [List.size_toArray, bv_length]; with_reducible assumption) | (simp [cat, msgC, jbC, sgdC, rcpC, hm.h0, hm.h1, hm.go, hm.sec, hm.j, hm.rh, hm.rb, zc78, zc82, zc54, length_zsum]; done) | (simp [cat, msgC, jbC, sgdC, rcpC, hm.h0, hm.h1, hm.go, hm.sec, hm.j, hm.rh, hm.rb, zc78, zc82, zc54, length_zsum]; omega) | rfl)) rfl hS ?_
      refine q_val (fun w hS => e_field rfl Try.underlying84 rfl sz80 (by decide)) rfl hS ?_
      refine q_val (fun w hS => e_field rfl Try.underlying80 rfl sz44 (by decide)) rfl hS ?_
      refine q_val (fun w hS => e_loadFA (i := 9) (off := 71) rfl ag44 sz44 (by decide) hS (j := 0) rfl rfl rfl (by first | with_reducible assumption | (rw [bv_length]; with_reducible assumption) | (rw [List.size_toArray, bv_length]; with_reducible assumption) | (simp [cat, msgC, jbC, sgdC, rcpC, hm.h0, hm.h1, hm.go, hm.sec, hm.j, hm.rh, hm.rb, zc78, zc82, zc54, length_zsum]; done) | (simp [cat, msgC, jbC, sgdC, rcpC, hm.h0, hm.h1, hm.go, hm.sec, hm.j, hm.rh, hm.rb, zc78, zc82, zc54, length_zsum]; omega) | rfl) (by first | with_reducible assumption | (rw [bv_length]; with_reducible assumption) | (rw [List.size_toArray, bv_length]; with_reducible assumption) | (simp [cat, msgC, jbC, sgdC, rcpC, hm.h0, hm.h1, hm.go, hm.sec, hm.j, hm.rh, hm.rb, zc78, zc82, zc54, length_zsum]; done) | (simp [cat, msgC, jbC, sgdC, rcpC, hm.h0, hm.h1, hm.go, hm.sec, hm.j, hm.rh, hm.rb, zc78, zc82, zc54, length_zsum]; omega) | rfl)) rfl hS ?_
      refine q_does (d_call Try.func56 nm56 rfl rfl (pen_num _ _ _ _ _ _ (S.hr [0, 1] rfl) (by first | omega | (simp only [List.length_append, List.length_cons, List.length_nil, bv_length, msgC, jbC, sgdC, rcpC, hm.h0, hm.h1, hm.go, hm.sec, hm.j, hm.rh, hm.rb, zc78, zc82, zc54, length_zsum]; omega) | (simp [cat, msgC, jbC, sgdC, rcpC, hm.h0, hm.h1, hm.go, hm.sec, hm.j, hm.rh, hm.rb, zc78, zc82, zc54, length_zsum]; omega)))) rfl ?_
      rintro _ w ⟨rfl, k24, c24, T⟩
      have S := (S.call [0, 1] T rfl).pk [0, 1, 4] rfl
      have hS := S.pk [2] rfl
      refine ⟨hS, ?_⟩
      refine q_does (d_call Try.func56 nm56 rfl rfl (pen_num _ _ _ _ _ _ (S.hr [0, 1] rfl) (by first | omega | (simp only [List.length_append, List.length_cons, List.length_nil, bv_length, msgC, jbC, sgdC, rcpC, hm.h0, hm.h1, hm.go, hm.sec, hm.j, hm.rh, hm.rb, zc78, zc82, zc54, length_zsum]; omega) | (simp [cat, msgC, jbC, sgdC, rcpC, hm.h0, hm.h1, hm.go, hm.sec, hm.j, hm.rh, hm.rb, zc78, zc82, zc54, length_zsum]; omega)))) rfl ?_
      rintro _ w ⟨rfl, k28, c28, T⟩
      have S := (S.call [0, 1] T rfl).pk [0, 1, 4] rfl
      have hS := S.pk [2] rfl
      refine ⟨hS, ?_⟩
      refine q_does (d_call Try.func56 nm56 rfl rfl (pen_num _ _ _ _ _ _ (S.hr [0, 1] rfl) (by first | omega | (simp only [List.length_append, List.length_cons, List.length_nil, bv_length, msgC, jbC, sgdC, rcpC, hm.h0, hm.h1, hm.go, hm.sec, hm.j, hm.rh, hm.rb, zc78, zc82, zc54, length_zsum]; omega) | (simp [cat, msgC, jbC, sgdC, rcpC, hm.h0, hm.h1, hm.go, hm.sec, hm.j, hm.rh, hm.rb, zc78, zc82, zc54, length_zsum]; omega)))) rfl ?_
      rintro _ w ⟨rfl, k32, c32, T⟩
      have S := (S.call [0, 1] T rfl).pk [0, 1, 4] rfl
      have hS := S.pk [2] rfl
      refine ⟨hS, ?_⟩
      refine q_does (d_call Try.func57 nm57 rfl rfl (pen_sum _ _ _ _ _ _ (S.hr [0, 1] rfl) (by first | with_reducible assumption | (rw [bv_length]; with_reducible assumption) | (rw [List.size_toArray, bv_length]; with_reducible assumption) | (simp [cat, msgC, jbC, sgdC, rcpC, hm.h0, hm.h1, hm.go, hm.sec, hm.j, hm.rh, hm.rb, zc78, zc82, zc54, length_zsum]; done) | (simp [cat, msgC, jbC, sgdC, rcpC, hm.h0, hm.h1, hm.go, hm.sec, hm.j, hm.rh, hm.rb, zc78, zc82, zc54, length_zsum]; omega) | rfl) (by first | omega | (simp only [List.length_append, List.length_cons, List.length_nil, bv_length, msgC, jbC, sgdC, rcpC, hm.h0, hm.h1, hm.go, hm.sec, hm.j, hm.rh, hm.rb, zc78, zc82, zc54, length_zsum]; omega) | (simp [cat, msgC, jbC, sgdC, rcpC, hm.h0, hm.h1, hm.go, hm.sec, hm.j, hm.rh, hm.rb, zc78, zc82, zc54, length_zsum]; omega)))) rfl ?_
      rintro _ w ⟨rfl, k37, c37, T⟩
      have S := (S.call [0, 1] T rfl).pk [0, 1, 4] rfl
      have hS := S.pk [2] rfl
      refine ⟨hS, ?_⟩
      refine q_does (d_call Try.func57 nm57 rfl rfl (pen_sum _ _ _ _ _ _ (S.hr [0, 1] rfl) (by first | with_reducible assumption | (rw [bv_length]; with_reducible assumption) | (rw [List.size_toArray, bv_length]; with_reducible assumption) | (simp [cat, msgC, jbC, sgdC, rcpC, hm.h0, hm.h1, hm.go, hm.sec, hm.j, hm.rh, hm.rb, zc78, zc82, zc54, length_zsum]; done) | (simp [cat, msgC, jbC, sgdC, rcpC, hm.h0, hm.h1, hm.go, hm.sec, hm.j, hm.rh, hm.rb, zc78, zc82, zc54, length_zsum]; omega) | rfl) (by first | omega | (simp only [List.length_append, List.length_cons, List.length_nil, bv_length, msgC, jbC, sgdC, rcpC, hm.h0, hm.h1, hm.go, hm.sec, hm.j, hm.rh, hm.rb, zc78, zc82, zc54, length_zsum]; omega) | (simp [cat, msgC, jbC, sgdC, rcpC, hm.h0, hm.h1, hm.go, hm.sec, hm.j, hm.rh, hm.rb, zc78, zc82, zc54, length_zsum]; omega)))) rfl ?_
      rintro _ w ⟨rfl, k42, c42, T⟩
      have S := (S.call [0, 1] T rfl).pk [0, 1, 4] rfl
      have hS := S.pk [2] rfl
      refine ⟨hS, ?_⟩
      refine q_does (d_call Try.func56 nm56 rfl rfl (pen_num _ _ _ _ _ _ (S.hr [0, 1] rfl) (by first | omega | (simp only [List.length_append, List.length_cons, List.length_nil, bv_length, msgC, jbC, sgdC, rcpC, hm.h0, hm.h1, hm.go, hm.sec, hm.j, hm.rh, hm.rb, zc78, zc82, zc54, length_zsum]; omega) | (simp [cat, msgC, jbC, sgdC, rcpC, hm.h0, hm.h1, hm.go, hm.sec, hm.j, hm.rh, hm.rb, zc78, zc82, zc54, length_zsum]; omega)))) rfl ?_
      rintro _ w ⟨rfl, k46, c46, T⟩
      have S := (S.call [0, 1] T rfl).pk [0, 1, 4] rfl
      have hS := S.pk [2] rfl
      refine ⟨hS, ?_⟩
      refine q_does (d_call Try.func57 nm57 rfl rfl (pen_sum _ _ _ _ _ _ (S.hr [0, 1] rfl) (by first | with_reducible assumption | (rw [bv_length]; with_reducible assumption) | (rw [List.size_toArray, bv_length]; with_reducible assumption) | (simp [cat, msgC, jbC, sgdC, rcpC, hm.h0, hm.h1, hm.go, hm.sec, hm.j, hm.rh, hm.rb, zc78, zc82, zc54, length_zsum]; done) | (simp [cat, msgC, jbC, sgdC, rcpC, hm.h0, hm.h1, hm.go, hm.sec, hm.j, hm.rh, hm.rb, zc78, zc82, zc54, length_zsum]; omega) | rfl) (by first | omega | (simp only [List.length_append, List.length_cons, List.length_nil, bv_length, msgC, jbC, sgdC, rcpC, hm.h0, hm.h1, hm.go, hm.sec, hm.j, hm.rh, hm.rb, zc78, zc82, zc54, length_zsum]; omega) | (simp [cat, msgC, jbC, sgdC, rcpC, hm.h0, hm.h1, hm.go, hm.sec, hm.j, hm.rh, hm.rb, zc78, zc82, zc54, length_zsum]; omega)))) rfl ?_
      rintro _ w ⟨rfl, k50, c50, T⟩
      have S := (S.call [0, 1] T rfl).pk [0, 1, 4] rfl
      have hS := S.pk [2] rfl
      refine ⟨hS, ?_⟩
      refine q_nil (p_nil (x_in ?_))
      exact x_then ⟨_, rfl, _, _, _, _, upds_eq ⟨rfl, trivial⟩, by simp [tput, tbody, hc19, nums], S⟩
    · refine s_seq (s_plain ?_)
      refine p_val (e_eql rfl rfl) rfl ?_
      refine p_val (e_assign (v := .bool _) rfl) rfl ?_
      refine p_nil (x_then ?_)
      refine s_cond rfl (fun hc51 => ?_) (fun hc51 => ?_)
      · refine s_drawK (ks := [some b1]) (ps := [Ex _ _]) (S.pk [2] rfl) [(true, 0), (true, 1), (true, 3), (true, 4), (true, 6), (true, 7), (true, 8), (true, 10), (true, 11), (true, 12), (false, 2), (false, 5), (false, 9), (false, 13)] [] [] mixed (by kernel_rfl) (by repeat (first | exact Calm.post _ _ _ | refine Calm.then ?_ _ | refine Calm.inB ?_ _)) (fun hS => ?_)
        have S := S.drew
        refine q_val (fun w hS => e_field rfl Try.underlying84 rfl sz3 (by decide)) rfl hS ?_
        refine q_val (fun w hS => e_loadF1 (i := 10) (off := 103) rfl ag3 hS (j := 0) rfl rfl rfl (by first | with_reducible assumption | (rw [bv_length]; with_reducible assumption) | (rw [List.size_toArray, bv_length]; with_reducible assumption) | (simp [cat, msgC, jbC, sgdC, rcpC, hm.h0, hm.h1, hm.go, hm.sec, hm.j, hm.rh, hm.rb, zc78, zc82, zc54, length_zsum]; done) | (simp [cat, msgC, jbC, sgdC, rcpC, hm.h0, hm.h1, hm.go, hm.sec, hm.j, hm.rh, hm.rb, zc78, zc82, zc54, length_zsum]; omega) | rfl)) rfl hS ?_
        refine q_val (fun w hS => e_field rfl Try.underlying84 rfl sz44 (by decide)) rfl hS ?_
        refine q_val (fun w hS => e_loadFA (i := 11) (off := 104) rfl ag44 sz44 (by decide) hS (j := 0) rfl rfl rfl (by first | with_reducible assumption | (rw [bv_length]; with_reducible assumption) | (rw [List.size_toArray, bv_length]; with_reducible assumption) | (simp [cat, msgC, jbC, sgdC, rcpC, hm.h0, hm.h1, hm.go, hm.sec, hm.j, hm.rh, hm.rb, zc78, zc82, zc54, length_zsum]; done) | (simp [cat, msgC, jbC, sgdC, rcpC, hm.h0, hm.h1, hm.go, hm.sec, hm.j, hm.rh, hm.rb, zc78, zc82, zc54, length_zsum]; omega) | rfl) (by first | with_reducible assumption | (rw [bv_length]; with_reducible assumption) | (rw [List.size_toArray, bv_length]; with_reducible assumption) | (simp [cat, msgC, jbC, sgdC, rcpC, hm.h0, hm.h1, hm.go, hm.sec, hm.j, hm.rh, hm.rb, zc78, zc82, zc54, length_zsum]; done) | (simp [cat, msgC, jbC, sgdC, rcpC, hm.h0, hm.h1, hm.go, hm.sec, hm.j, hm.rh, hm.rb, zc78, zc82, zc54, length_zsum]; omega) | rfl)) rfl hS ?_
        refine q_val (fun w hS => e_field rfl Try.underlying84 rfl sz80 (by decide)) rfl hS ?_
        refine q_val (fun w hS => e_field rfl Try.underlying80 rfl sz3 (by decide)) rfl hS ?_
        refine q_val (fun w hS => e_loadF1 (i := 8) (off := 70) rfl ag3 hS (j := 0) rfl rfl rfl (by first | with_reducible assumption | (rw [bv_length]; with_reducible assumption) | (rw [List.size_toArray, bv_length]; with_reducible assumption) | (simp [cat, msgC, jbC, sgdC, rcpC, hm.h0, hm.h1, hm.go, hm.sec, hm.j, hm.rh, hm.rb, zc78, zc82, zc54, length_zsum]; done) | (simp [cat, msgC, jbC, sgdC, rcpC, hm.h0, hm.h1, hm.go, hm.sec, hm.j, hm.rh, hm.rb, zc78, zc82, zc54, length_zsum]; omega) | rfl)) rfl hS ?_
        refine q_val (fun w hS => e_field rfl Try.underlying84 rfl sz80 (by decide)) rfl hS ?_
        refine q_val (fun w hS => e_field rfl Try.underlying80 rfl sz44 (by decide)) rfl hS ?_
        refine q_val (fun w hS => e_loadFA (i := 9) (off := 71) rfl ag44 sz44 (by decide) hS (j := 0) rfl rfl rfl (by first | with_reducible assumption | (rw [bv_length]; with_reducible assumption) | (rw [List.size_toArray, bv_length]; with_reducible assumption) | (simp [cat, msgC, jbC, sgdC, rcpC, hm.h0, hm.h1, hm.go, hm.sec, hm.j, hm.rh, hm.rb, zc78, zc82, zc54, length_zsum]; done) | (simp [cat, msgC, jbC, sgdC, rcpC, hm.h0, hm.h1, hm.go, hm.sec, hm.j, hm.rh, hm.rb, zc78, zc82, zc54, length_zsum]; omega) | rfl) (by first | with_reducible assumption | (rw [bv_length]; with_reducible assumption) | (rw [List.size_toArray, bv_length]; with_reducible assumption) | (simp [cat, msgC, jbC, sgdC, rcpC, hm.h0, hm.h1, hm.go, hm.sec, hm.j, hm.rh, hm.rb, zc78, zc82, zc54, length_zsum]; done) | (simp [cat, msgC, jbC, sgdC, rcpC, hm.h0, hm.h1, hm.go, hm.sec, hm.j, hm.rh, hm.rb, zc78, zc82, zc54, length_zsum]; omega) | rfl)) rfl hS ?_
        refine q_does (d_call Try.func56 nm56 rfl rfl (pen_num _ _ _ _ _ _ (S.hr [0, 1] rfl) (by first | omega | (simp only [List.length_append, List.length_cons, List.length_nil, bv_length, msgC, jbC, sgdC, rcpC, hm.h0, hm.h1, hm.go, hm.sec, hm.j, hm.rh, hm.rb, zc78, zc82, zc54, length_zsum]; omega) | (simp [cat, msgC, jbC, sgdC, rcpC, hm.h0, hm.h1, hm.go, hm.sec, hm.j, hm.rh, hm.rb, zc78, zc82, zc54, length_zsum]; omega)))) rfl ?_
        rintro _ w ⟨rfl, k55, c55, T⟩
        have S := (S.call [0, 1] T rfl).pk [0, 1, 4] rfl
        have hS := S.pk [2] rfl
        refine ⟨hS, ?_⟩
        refine q_does (d_call Try.func57 nm57 rfl rfl (pen_sum _ _ _ _ _ _ (S.hr [0, 1] rfl) (by first | with_reducible assumption | (rw [bv_length]; with_reducible assumption) | (rw [List.size_toArray, bv_length]; with_reducible assumption) | (simp [cat, msgC, jbC, sgdC, rcpC, hm.h0, hm.h1, hm.go, hm.sec, hm.j, hm.rh, hm.rb, zc78, zc82, zc54, length_zsum]; done) | (simp [cat, msgC, jbC, sgdC, rcpC, hm.h0, hm.h1, hm.go, hm.sec, hm.j, hm.rh, hm.rb, zc78, zc82, zc54, length_zsum]; omega) | rfl) (by first | omega | (simp only [List.length_append, List.length_cons, List.length_nil, bv_length, msgC, jbC, sgdC, rcpC, hm.h0, hm.h1, hm.go, hm.sec, hm.j, hm.rh, hm.rb, zc78, zc82, zc54, length_zsum]; omega) | (simp [cat, msgC, jbC, sgdC, rcpC, hm.h0, hm.h1, hm.go, hm.sec, hm.j, hm.rh, hm.rb, zc78, zc82, zc54, length_zsum]; omega)))) rfl ?_
        rintro _ w ⟨rfl, k58, c58, T⟩
        have S := (S.call [0, 1] T rfl).pk [0, 1, 4] rfl
        have hS := S.pk [2] rfl
        refine ⟨hS, ?_⟩
        refine q_does (d_call Try.func56 nm56 rfl rfl (pen_num _ _ _ _ _ _ (S.hr [0, 1] rfl) (by first | omega | (simp only [List.length_append, List.length_cons, List.length_nil, bv_length, msgC, jbC, sgdC, rcpC, hm.h0, hm.h1, hm.go, hm.sec, hm.j, hm.rh, hm.rb, zc78, zc82, zc54, length_zsum]; omega) | (simp [cat, msgC, jbC, sgdC, rcpC, hm.h0, hm.h1, hm.go, hm.sec, hm.j, hm.rh, hm.rb, zc78, zc82, zc54, length_zsum]; omega)))) rfl ?_
        rintro _ w ⟨rfl, k62, c62, T⟩
        have S := (S.call [0, 1] T rfl).pk [0, 1, 4] rfl
        have hS := S.pk [2] rfl
        refine ⟨hS, ?_⟩
        refine q_does (d_call Try.func57 nm57 rfl rfl (pen_sum _ _ _ _ _ _ (S.hr [0, 1] rfl) (by first | with_reducible assumption | (rw [bv_length]; with_reducible assumption) | (rw [List.size_toArray, bv_length]; with_reducible assumption) | (simp [cat, msgC, jbC, sgdC, rcpC, hm.h0, hm.h1, hm.go, hm.sec, hm.j, hm.rh, hm.rb, zc78, zc82, zc54, length_zsum]; done) | (simp [cat, msgC, jbC, sgdC, rcpC, hm.h0, hm.h1, hm.go, hm.sec, hm.j, hm.rh, hm.rb, zc78, zc82, zc54, length_zsum]; omega) | rfl) (by first | omega | (simp only [List.length_append, List.length_cons, List.length_nil, bv_length, msgC, jbC, sgdC, rcpC, hm.h0, hm.h1, hm.go, hm.sec, hm.j, hm.rh, hm.rb, zc78, zc82, zc54, length_zsum]; omega) | (simp [cat, msgC, jbC, sgdC, rcpC, hm.h0, hm.h1, hm.go, hm.sec, hm.j, hm.rh, hm.rb, zc78, zc82, zc54, length_zsum]; omega)))) rfl ?_
        rintro _ w ⟨rfl, k66, c66, T⟩
        have S := (S.call [0, 1] T rfl).pk [0, 1, 4] rfl
        have hS := S.pk [2] rfl
        refine ⟨hS, ?_⟩
        refine q_nil (p_nil (x_in ?_))
        exact x_then ⟨_, rfl, _, _, _, _, upds_eq ⟨rfl, trivial⟩, by simp [tput, tbody, hc51, nums], S⟩
      · refine s_seq (s_plain ?_)
        refine p_val (e_eql rfl rfl) rfl ?_
        refine p_val (e_assign (v := .bool _) rfl) rfl ?_
        refine p_nil (x_then ?_)
        refine s_cond rfl (fun hc67 => ?_) (fun hc67 => ?_)
        · refine s_drawK (ks := [some b1]) (ps := [Ex _ _]) (S.pk [2] rfl) [(true, 0), (true, 1), (true, 3), (true, 4), (false, 2), (false, 5)] [] [] mixed (by kernel_rfl) (by repeat (first | exact Calm.post _ _ _ | refine Calm.then ?_ _ | refine Calm.inB ?_ _)) (fun hS => ?_)
          have S := S.drew
          refine q_val (fun w hS => e_field rfl Try.underlying84 rfl sz3 (by decide)) rfl hS ?_
          refine q_val (fun w hS => e_loadF1 (i := 10) (off := 103) rfl ag3 hS (j := 0) rfl rfl rfl (by first | with_reducible assumption | (rw [bv_length]; with_reducible assumption) | (rw [List.size_toArray, bv_length]; with_reducible assumption) | (simp [cat, msgC, jbC, sgdC, rcpC, hm.h0, hm.h1, hm.go, hm.sec, hm.j, hm.rh, hm.rb, zc78, zc82, zc54, length_zsum]; done) | (simp [cat, msgC, jbC, sgdC, rcpC, hm.h0, hm.h1, hm.go, hm.sec, hm.j, hm.rh, hm.rb, zc78, zc82, zc54, length_zsum]; omega) | rfl)) rfl hS ?_
          refine q_val (fun w hS => e_field rfl Try.underlying84 rfl sz44 (by decide)) rfl hS ?_
          refine q_val (fun w hS => e_loadFA (i := 11) (off := 104) rfl ag44 sz44 (by decide) hS (j := 0) rfl rfl rfl (by first | with_reducible assumption | (rw [bv_length]; with_reducible assumption) | (rw [List.size_toArray, bv_length]; with_reducible assumption) | (simp [cat, msgC, jbC, sgdC, rcpC, hm.h0, hm.h1, hm.go, hm.sec, hm.j, hm.rh, hm.rb, zc78, zc82, zc54, length_zsum]; done) | (simp [cat, msgC, jbC, sgdC, rcpC, hm.h0, hm.h1, hm.go, hm.sec, hm.j, hm.rh, hm.rb, zc78, zc82, zc54, length_zsum]; omega) | rfl) (by first | with_reducible assumption | (rw [bv_length]; with_reducible assumption) | (rw [List.size_toArray, bv_length]; with_reducible assumption) | (simp [cat, msgC, jbC, sgdC, rcpC, hm.h0, hm.h1, hm.go, hm.sec, hm.j, hm.rh, hm.rb, zc78, zc82, zc54, length_zsum]; done) | (simp [cat, msgC, jbC, sgdC, rcpC, hm.h0, hm.h1, hm.go, hm.sec, hm.j, hm.rh, hm.rb, zc78, zc82, zc54, length_zsum]; omega) | rfl)) rfl hS ?_
          refine q_does (d_call Try.func56 nm56 rfl rfl (pen_num _ _ _ _ _ _ (S.hr [0, 1] rfl) (by first | omega | (simp only [List.length_append, List.length_cons, List.length_nil, bv_length, msgC, jbC, sgdC, rcpC, hm.h0, hm.h1, hm.go, hm.sec, hm.j, hm.rh, hm.rb, zc78, zc82, zc54, length_zsum]; omega) | (simp [cat, msgC, jbC, sgdC, rcpC, hm.h0, hm.h1, hm.go, hm.sec, hm.j, hm.rh, hm.rb, zc78, zc82, zc54, length_zsum]; omega)))) rfl ?_
          rintro _ w ⟨rfl, k71, c71, T⟩
          have S := (S.call [0, 1] T rfl).pk [0, 1, 4] rfl
          have hS := S.pk [2] rfl
          refine ⟨hS, ?_⟩
          refine q_does (d_call Try.func57 nm57 rfl rfl (pen_sum _ _ _ _ _ _ (S.hr [0, 1] rfl) (by first | with_reducible assumption | (rw [bv_length]; with_reducible assumption) | (rw [List.size_toArray, bv_length]; with_reducible assumption) | (simp [cat, msgC, jbC, sgdC, rcpC, hm.h0, hm.h1, hm.go, hm.sec, hm.j, hm.rh, hm.rb, zc78, zc82, zc54, length_zsum]; done) | (simp [cat, msgC, jbC, sgdC, rcpC, hm.h0, hm.h1, hm.go, hm.sec, hm.j, hm.rh, hm.rb, zc78, zc82, zc54, length_zsum]; omega) | rfl) (by first | omega | (simp only [List.length_append, List.length_cons, List.length_nil, bv_length, msgC, jbC, sgdC, rcpC, hm.h0, hm.h1, hm.go, hm.sec, hm.j, hm.rh, hm.rb, zc78, zc82, zc54, length_zsum]; omega) | (simp [cat, msgC, jbC, sgdC, rcpC, hm.h0, hm.h1, hm.go, hm.sec, hm.j, hm.rh, hm.rb, zc78, zc82, zc54, length_zsum]; omega)))) rfl ?_
          rintro _ w ⟨rfl, k74, c74, T⟩
          have S := (S.call [0, 1] T rfl).pk [0, 1, 4] rfl
          have hS := S.pk [2] rfl
          refine ⟨hS, ?_⟩
          refine q_nil (p_nil (x_in ?_))
          exact x_then ⟨_, rfl, _, _, _, _, upds_eq ⟨rfl, trivial⟩, by simp [tput, tbody, hc67, nums], S⟩
        · refine s_seq (s_plain ?_)
          refine p_val (e_eql rfl rfl) rfl ?_
          refine p_val (e_assign (v := .bool _) rfl) rfl ?_
          refine p_nil (x_then ?_)
          refine s_cond rfl (fun hc75 => ?_) (fun hc75 => ?_)
          · refine s_plain ?_
            refine p_val (e_field rfl Try.underlying84 rfl sz82 (by decide)) rfl ?_
            refine p_val (e_loadFS (i := 12) (n := 4) (off := 136) rfl ag82 sz82 (by decide) S (j := 2) rfl rfl (by first | with_reducible assumption | (rw [bv_length]; with_reducible assumption) | (rw [List.size_toArray, bv_length]; with_reducible assumption) | (simp [cat, msgC, jbC, sgdC, rcpC, hm.h0, hm.h1, hm.go, hm.sec, hm.j, hm.rh, hm.rb, zc78, zc82, zc54, length_zsum]; done) | (simp [cat, msgC, jbC, sgdC, rcpC, hm.h0, hm.h1, hm.go, hm.sec, hm.j, hm.rh, hm.rb, zc78, zc82, zc54, length_zsum]; omega) | rfl) (by first | with_reducible assumption | (rw [bv_length]; with_reducible assumption) | (rw [List.size_toArray, bv_length]; with_reducible assumption) | (simp [cat, msgC, jbC, sgdC, rcpC, hm.h0, hm.h1, hm.go, hm.sec, hm.j, hm.rh, hm.rb, zc78, zc82, zc54, length_zsum]; done) | (simp [cat, msgC, jbC, sgdC, rcpC, hm.h0, hm.h1, hm.go, hm.sec, hm.j, hm.rh, hm.rb, zc78, zc82, zc54, length_zsum]; omega) | rfl)) rfl ?_
            refine p_does (d_call Try.func67 nm67 rfl rfl (jb_put _ m.j _ _ b hj (S.rdOld RB rfl) (by first | omega | (simp only [List.length_append, List.length_cons, List.length_nil, bv_length, msgC, jbC, sgdC, rcpC, hm.h0, hm.h1, hm.go, hm.sec, hm.j, hm.rh, hm.rb, zc78, zc82, zc54, length_zsum]; omega) | (simp [cat, msgC, jbC, sgdC, rcpC, hm.h0, hm.h1, hm.go, hm.sec, hm.j, hm.rh, hm.rb, zc78, zc82, zc54, length_zsum]; omega)))) rfl ?_
            rintro _ w ⟨k79, c79, rfl, T⟩
            have S := S.merge T rfl
            refine p_does (d_call Try.func25 nm25 rfl rfl (pen_text _ _ _ _ _ _ _ _ _ (S.hr [1, 2] rfl) (S.rdRw 0 rfl rfl) (S.offRow 0 [1, 2] rfl rfl) (by first | omega | (simp only [List.length_append, List.length_cons, List.length_nil, bv_length, msgC, jbC, sgdC, rcpC, hm.h0, hm.h1, hm.go, hm.sec, hm.j, hm.rh, hm.rb, zc78, zc82, zc54, length_zsum]; omega) | (simp [cat, msgC, jbC, sgdC, rcpC, hm.h0, hm.h1, hm.go, hm.sec, hm.j, hm.rh, hm.rb, zc78, zc82, zc54, length_zsum]; omega)))) rfl ?_
            rintro _ w ⟨rfl, k80, c80, T⟩
            have S := (S.call [1, 2] T rfl).pk [2, 0, 1, 5] rfl
            refine p_nil (x_in ?_)
            exact x_then ⟨_, rfl, _, _, _, _, upds_eq ⟨rfl, trivial⟩, by simp [tput, tbody, hc75, nums], S.pk [1, 2, 3] rfl⟩
          · refine s_plain ?_
            refine p_val (e_field rfl Try.underlying84 rfl sz54 (by decide)) rfl ?_
            refine p_val (e_loadFS (i := 16) (n := 6) (off := 171) rfl ag54 sz54 (by decide) S (j := 2) rfl rfl (by first | with_reducible assumption | (rw [bv_length]; with_reducible assumption) | (rw [List.size_toArray, bv_length]; with_reducible assumption) | (simp [cat, msgC, jbC, sgdC, rcpC, hm.h0, hm.h1, hm.go, hm.sec, hm.j, hm.rh, hm.rb, zc78, zc82, zc54, length_zsum]; done) | (simp [cat, msgC, jbC, sgdC, rcpC, hm.h0, hm.h1, hm.go, hm.sec, hm.j, hm.rh, hm.rb, zc78, zc82, zc54, length_zsum]; omega) | rfl) (by first | with_reducible assumption | (rw [bv_length]; with_reducible assumption) | (rw [List.size_toArray, bv_length]; with_reducible assumption) | (simp [cat, msgC, jbC, sgdC, rcpC, hm.h0, hm.h1, hm.go, hm.sec, hm.j, hm.rh, hm.rb, zc78, zc82, zc54, length_zsum]; done) | (simp [cat, msgC, jbC, sgdC, rcpC, hm.h0, hm.h1, hm.go, hm.sec, hm.j, hm.rh, hm.rb, zc78, zc82, zc54, length_zsum]; omega) | rfl)) rfl ?_
            refine p_does (d_call Try.func28 nm28 rfl rfl (sg_put _ m.r _ _ s hr (S.rdOld RS rfl) (by first | omega | (simp only [List.length_append, List.length_cons, List.length_nil, bv_length, msgC, jbC, sgdC, rcpC, hm.h0, hm.h1, hm.go, hm.sec, hm.j, hm.rh, hm.rb, zc78, zc82, zc54, length_zsum]; omega) | (simp [cat, msgC, jbC, sgdC, rcpC, hm.h0, hm.h1, hm.go, hm.sec, hm.j, hm.rh, hm.rb, zc78, zc82, zc54, length_zsum]; omega)))) rfl ?_
            rintro _ w ⟨k17, c17, rfl, T⟩
            have S := S.merge T rfl
            refine p_does (d_call Try.func25 nm25 rfl rfl (pen_text _ _ _ _ _ _ _ _ _ (S.hr [1, 2] rfl) (S.rdRw 0 rfl rfl) (S.offRow 0 [1, 2] rfl rfl) (by first | omega | (simp only [List.length_append, List.length_cons, List.length_nil, bv_length, msgC, jbC, sgdC, rcpC, hm.h0, hm.h1, hm.go, hm.sec, hm.j, hm.rh, hm.rb, zc78, zc82, zc54, length_zsum]; omega) | (simp [cat, msgC, jbC, sgdC, rcpC, hm.h0, hm.h1, hm.go, hm.sec, hm.j, hm.rh, hm.rb, zc78, zc82, zc54, length_zsum]; omega)))) rfl ?_
            rintro _ w ⟨rfl, k18, c18, T⟩
            have S := (S.call [1, 2] T rfl).pk [2, 0, 1, 5] rfl
            refine p_nil (x_in ?_)
            exact x_then ⟨_, rfl, _, _, _, _, upds_eq ⟨rfl, trivial⟩, by simp [tput, tbody, hc19, hc51, hc67, hc75, nums], S.pk [1, 2, 3] rfl⟩
  · rintro f w ⟨u, Kp3, Cp3, q, rfl, hq, S⟩
    have hql : q.length ≤ 300 + b.length + s.length := by rw [hq]; exact tput_len hm
    refine x_then (s_seq (s_plain ?_))
    refine p_does (d_call Try.func26 nm26 rfl rfl (pen_bytes _ _ _ _ _ (S.exact_ 0 rfl rfl) (S.rdRw 1 rfl rfl) (by first | omega | (simp only [List.length_append, List.length_cons, List.length_nil, bv_length, msgC, jbC, sgdC, rcpC, hm.h0, hm.h1, hm.go, hm.sec, hm.j, hm.rh, hm.rb, zc78, zc82, zc54, length_zsum]; omega) | (simp [cat, msgC, jbC, sgdC, rcpC, hm.h0, hm.h1, hm.go, hm.sec, hm.j, hm.rh, hm.rb, zc78, zc82, zc54, length_zsum]; omega)))) rfl ?_
    rintro _ w ⟨k81, c81, rfl, T⟩
    have S := S.merge T rfl
    refine p_val (e_assign (v := .slice _ _ _) rfl) rfl ?_
    refine p_nil (x_then (s_ret ?_))
    exact post1 (v := .slice _ _ _) Try.results48 rfl (by subst hq; exact ⟨_, _, rfl, S.pk [0] rfl⟩)
end Go.Proofs.Ytcgcjklpilbndaa

/- Chapter 12's laws on texts and on bytes. It proves no statement by itself. -/
set_option linter.unusedSimpArgs false
set_option linter.unusedVariables false
set_option maxRecDepth 100000
set_option maxHeartbeats 2000000
namespace Go.Proofs.Ytcgcjklpilbndaa
open Go Go.RowKit E
attribute [local irreducible] wpList seqH treeH
def Rcp.byt (r : Rcp) : Prop := Bytes r.h ∧ Bytes r.b
theorem app_lt {a b : List Nat} (ha : ∀ x ∈ a, x < 256) (hb : ∀ x ∈ b, x < 256) : ∀ x ∈ a ++ b, x < 256 := fun x h => (List.mem_append.1 h).elim (ha x) (hb x)
theorem rtext_lt {r : Rcp} (h : r.byt) : ∀ x ∈ rtext r, x < 256 := by
  unfold rtext
  exact app_lt (app_lt (app_lt (app_lt (num_lt _) (num_lt _)) (num_lt _)) h.1) h.2
theorem sput_lt {r : Rcp} {s : List Nat} (h : r.byt) (hs : ∀ x ∈ s, x < 256) : ∀ x ∈ sput r s, x < 256 := by
  unfold sput
  exact app_lt (app_lt (app_lt (num_lt _) (rtext_lt h)) (num_lt _)) hs
theorem rcp_back {r : Rcp} (hr : r.ok) (h : r.right) : rRcp (rtext r) = (r, 0) := by
  obtain ⟨h1, h2, h3, h4, h5, h6⟩ := h
  have e : rtext r = num r.t ++ (num r.c ++ (num r.s ++ (r.h ++ (r.b ++ [])))) := by simp [rtext]
  unfold rRcp
  rw [e]
  simp only [rUpto_num (a := r.t) (m := 15) ⟨h1, by omega⟩ (by decide), rUpto_num (a := r.c) (m := 1048576) ⟨h3, h4⟩ (by decide), rUpto_num (a := r.s) (m := 1048576) ⟨h5, h6⟩ (by decide), rSum_sum hr.1, rSum_sum hr.2, rDone_nil, if_true]
theorem rcp_inv {l : List Nat} (hB : Bytes l) (h : (rRcp l).2 = 0) : (rRcp l).1.right ∧ rtext (rRcp l).1 = l ∧ (rRcp l).1.byt := by
  unfold rRcp at h ⊢
  rcases ha : rUpto 15 0 l with ⟨a1, a2, a3⟩
  simp only [ha] at h ⊢
  rcases hb : rUpto 1048576 a2 a3 with ⟨b1, b2, b3⟩
  simp only [hb] at h ⊢
  rcases hc : rUpto 1048576 b2 b3 with ⟨c1, c2, c3⟩
  simp only [hc] at h ⊢
  rcases hh : rSum c2 c3 with ⟨s1, s2, s3⟩
  simp only [hh] at h ⊢
  rcases hg : rSum s2 s3 with ⟨g1, g2, g3⟩
  simp only [hg] at h ⊢
  split at h
  · rename_i hd
    rw [if_pos hd]
    obtain ⟨e1, e2⟩ := rDone_inv hd
    subst e1 e2
    obtain ⟨rfl, f2, f3⟩ := rSum_inv hg
    obtain ⟨rfl, f5, f6⟩ := rSum_inv hh
    -- bytes of what is left
    have key : ∀ {m e x : Int} {l l' : List Nat}, Bytes l → rUpto m e l = (x, 0, l') → Bytes l' := fun hB h => fun y hy => hB y (by rw [(rUpto_inv hB h).2.1]; exact List.mem_append.2 (.inr hy))
    have ha0 : a2 = 0 := by
      by_cases hz : a2 = 0
      · exact hz
      · have : rUpto 1048576 a2 a3 = (0, a2, a3) := by rw [rUpto_of (e2 := a2) (rNum_no hz a3) (by rw [if_neg (by decide)]), if_neg hz]
        rw [this] at hb
        simp only [Prod.mk.injEq] at hb
        have hb2 := hb.2.1
        subst hb2
        have : rUpto 1048576 a2 b3 = (0, a2, b3) := by rw [rUpto_of (e2 := a2) (rNum_no hz b3) (by rw [if_neg (by decide)]), if_neg hz]
        rw [this] at hc
        simp only [Prod.mk.injEq] at hc
        exact absurd hc.2.1 hz
    subst ha0
    have hb0 : b2 = 0 := by
      by_cases hz : b2 = 0
      · exact hz
      · have : rUpto 1048576 b2 b3 = (0, b2, b3) := by rw [rUpto_of (e2 := b2) (rNum_no hz b3) (by rw [if_neg (by decide)]), if_neg hz]
        rw [this] at hc
        simp only [Prod.mk.injEq] at hc
        exact absurd hc.2.1 hz
    subst hb0
    obtain ⟨_, k2, k3, k4, _⟩ := rUpto_inv hB ha
    have B1 := key hB ha
    obtain ⟨_, m2, m3, m4, _⟩ := rUpto_inv B1 hb
    have B2 := key B1 hb
    obtain ⟨_, n2, n3, n4, _⟩ := rUpto_inv B2 hc
    have B3 := key B2 hc
    refine ⟨⟨k3, by show a1 < 16; omega, m3, m4, n3, n4⟩, ?_, ?_, ?_⟩
    · show num a1 ++ num b1 ++ num c1 ++ s1 ++ g1 = l
      rw [k2, m2, n2, f5, f2]
      simp
    · exact fun y hy => B3 y (by rw [f5]; exact List.mem_append.2 (.inl hy))
    · exact fun y hy => B3 y (by rw [f5, f2]; simp [hy])
  · rename_i hd
    exact absurd h hd
theorem rcp_zero {l : List Nat} (h : ¬ (rRcp l).2 = 0) : (rRcp l).1 = Rcp.zero := by
  unfold rRcp at h ⊢
  simp only at h ⊢
  split
  · rename_i hd; rw [if_pos hd] at h; exact absurd rfl h
  · rfl
theorem sgd_back {r : Rcp} {s : List Nat} (hr : r.ok) (h : r.right) (hs : s.length ≤ 65536) : rSgd (sput r s) = (r, s, 0) := by
  have e : sput r s = num (rtext r).length ++ (rtext r ++ (num s.length ++ (s ++ []))) := by simp [sput]
  have hl := rtext_len hr
  unfold rSgd
  rw [e]
  simp only [rText_text (s := rtext r) (m := 65536) (by omega) (by decide), rText_text (s := s) (m := 65536) (by omega) (by decide), rDone_nil, if_true, rcp_back hr h]
theorem rText_no {e m : Int} (hm : 0 ≤ m) (hz : ¬ e = 0) (l : List Nat) : rText m e l = ([], e, l) := by
  have h1 : rUpto m e l = (0, e, l) := by rw [rUpto_of (e2 := e) (rNum_no hz l) (by rw [if_neg (by omega)]), if_neg hz]
  rw [rText_of h1 (b := []) (e2 := e) (l2 := l)]
  unfold rRaw
  rw [if_neg hz]
theorem sgd_inv {l : List Nat} (hB : Bytes l) (h : (rSgd l).2.2 = 0) : (rSgd l).1.right ∧ sput (rSgd l).1 (rSgd l).2.1 = l ∧ (rSgd l).1.byt ∧ Bytes (rSgd l).2.1 := by
  unfold rSgd at h ⊢
  simp only at h ⊢
  generalize hb : rText 65536 (rText 65536 0 l).2.1 (rText 65536 0 l).2.2 = b at h ⊢
  generalize ha : rText 65536 0 l = a at hb h ⊢
  obtain ⟨b1, b2, b3⟩ := b
  obtain ⟨a1, a2, a3⟩ := a
  simp only at h hb ⊢
  by_cases hd : rDone b2 b3 = 0
  · rw [if_pos hd] at h ⊢
    by_cases hq : (rRcp a1).2 = 0
    · rw [if_pos hq] at h ⊢
      obtain ⟨rfl, rfl⟩ := rDone_inv hd
      have ha0 : a2 = 0 := by
        by_cases hz : a2 = 0
        · exact hz
        · rw [rText_no (by decide) hz] at hb
          simp only [Prod.mk.injEq] at hb
          exact absurd hb.2.1 hz
      subst ha0
      obtain ⟨_, k2, _⟩ := rText_inv hB ha
      have B1 : Bytes a3 := fun y hy => hB y (by rw [k2]; simp [hy])
      obtain ⟨_, m2, _⟩ := rText_inv B1 hb
      obtain ⟨q1, q2, q3⟩ := rcp_inv (rText_bytes hB ha) hq
      refine ⟨q1, ?_, q3, rText_bytes B1 hb⟩
      show num (rtext (rRcp a1).1).length ++ rtext (rRcp a1).1 ++ num b1.length ++ b1 = l
      rw [q2, k2, m2]
      simp
    · rw [if_neg hq] at h
      exact absurd h hq
  · rw [if_neg hd] at h
    exact absurd h hd
theorem sgd_no {l : List Nat} (h : ¬ (rSgd l).2.2 = 0) : (rSgd l).1 = Rcp.zero ∧ (rSgd l).2.1 = [] := by
  unfold rSgd at h ⊢
  simp only at h ⊢
  split
  · rename_i hd
    rw [if_pos hd] at h
    split
    · rename_i hq; rw [if_pos hq] at h; exact absurd rfl h
    · exact ⟨rfl, rfl⟩
  · exact ⟨rfl, rfl⟩
theorem zero_ok : Rcp.zero.ok := ⟨length_zsum, length_zsum⟩
theorem zsum_lt : Bytes zsum := fun x h => by rw [(List.mem_replicate.1 h).2]; decide
theorem sgd_ok (l : List Nat) : (rSgd l).1.ok := by
  unfold rSgd
  simp only
  split
  · split
    · exact rcp_ok _
    · exact zero_ok
  · exact zero_ok
theorem eqRcp (r q : Rcp) (hr : r.ok) (hq : q.ok) : EqV Try.prog 3 46 (.agg (cat (rcpC r)).toArray) (.agg (cat (rcpC q)).toArray) (r = q) :=
  (EqV.struct (j := 2) Try.underlying46 (by kernel_rfl)
    (eqf_cons rfl (fun w => run_part1 (a := 0) w ag3 rfl rfl) (fun w => run_part1 (a := 0) w ag3 rfl rfl) ((EqV.int Try.underlying3).more 1)
    (eqf_cons rfl (fun w => run_part1 (a := 1) w ag3 rfl rfl) (fun w => run_part1 (a := 1) w ag3 rfl rfl) ((EqV.int Try.underlying3).more 1)
    (eqf_cons rfl (fun w => run_part1 (a := 2) w ag3 rfl rfl) (fun w => run_part1 (a := 2) w ag3 rfl rfl) ((EqV.int Try.underlying3).more 1)
    (eqf_cons rfl (fun w => run_partA (a := 3) w ag44 sz44 rfl rfl (by simp [hr.1])) (fun w => run_partA (a := 3) w ag44 sz44 rfl rfl (by simp [hq.1])) (EqV.sum eq44 hr.1 hq.1)
    (eqf_cons rfl (fun w => run_partA (a := 4) w ag44 sz44 rfl (by simp [rcpC, hr.1]) (by simp [hr.2])) (fun w => run_partA (a := 4) w ag44 sz44 rfl (by simp [rcpC, hq.1]) (by simp [hq.2])) (EqV.sum eq44 hr.2 hq.2) eqf_nil)))))).iff
    (by obtain ⟨a, b, c, d, e⟩ := r; obtain ⟨a', b', c', d', e'⟩ := q; simp)
noncomputable instance : DecidableEq Rcp := fun r q => Classical.propDecidable _
theorem l12awake (w0 : World) :
    Ret Try.prog 24 [] w0 fun v w' => v = .bool true ∧ Below w0.heap.size w0 w' := by
  refine enter Try.func24 rfl Try.ntmps24 (Nat.le_of_ble_eq_true rfl) ?_
  have S := St.init w0
  refine s_seq (s_plain ?_)
  refine p_val (e_assign (v := .bool _) rfl) rfl ?_
  refine p_nil (x_then (s_seq (s_plain ?_)))
  refine p_val (e_buildS0 bt54) rfl ?_
  refine p_does (d_call Try.func28 nm28 rfl rfl (sg_put _ Rcp.zero none 0 [] zero_ok (Rd.nil _ _ _) (by decide))) rfl ?_
  rintro _ w ⟨k5, c5, rfl, T⟩
  have S := S.merge T rfl
  refine p_does (d_call Try.func27 nm27 rfl rfl (Ret.mono (R' := fun v w' => ∃ k c2, v = .tuple #[.agg (cat (sgdC Rcp.zero (at_ k) 0 c2)).toArray, .int .i64 0] ∧ St _ w' [] [k] [Rw 5 1 0 c2 (bv [])]) (sg_get _ _ _ (sput Rcp.zero []) (S.rdRw 0 rfl rfl) (sput_lt ⟨zsum_lt, zsum_lt⟩ (by simp)) (S.capRw 0 rfl rfl) (by have h1 := rtext_len zero_ok; have h2 := num_len (rtext Rcp.zero).length; have h3 := num_len ([] : List Nat).length; unfold sput; simp only [List.length_append, List.length_nil] at *; omega)) (fun v w' ⟨k, c2, hv, hT⟩ => by rw [sgd_back zero_ok (by simp [Rcp.right, Rcp.zero]) (by decide)] at hv hT; exact ⟨k, c2, hv, hT⟩))) rfl ?_
  rintro _ w ⟨k6, c6, rfl, T⟩
  have S := S.merge T rfl
  refine p_val (e_move (v := .tuple _) rfl) rfl ?_
  refine p_val (e_extract rfl rfl) rfl ?_
  refine p_val (e_extract rfl rfl) rfl ?_
  refine p_does (d_allocA S zs54) rfl ?_
  rintro _ w ⟨b1, rfl, S⟩
  refine p_does (d_storeW S 0 rfl rfl (by first | exact bv_one _ | exact sv_one _ | exact iv_one _ | with_reducible assumption | (refine One.mem ?_; repeat (first | exact One.bv _ | exact One.sv _ | exact One.iv _ | exact One.nil | exact One.cat0 | refine One.cat1 ?_ ?_ | refine One.cons rfl ?_ | refine One.append ?_ ?_))) sz54 (by first | with_reducible assumption | (simp [cat, sgdC, zero_ok.1, zero_ok.2]; done) | (simp [cat, sgdC, zero_ok.1, zero_ok.2]; omega) | rfl) rfl rfl (by first | with_reducible assumption | (simp [cat, sgdC, zero_ok.1, zero_ok.2]; done) | (simp [cat, sgdC, zero_ok.1, zero_ok.2]; omega) | rfl)) rfl ?_
  intro _ w S
  refine p_val (e_assign (v := .int _ _) rfl) rfl ?_
  refine p_nil (x_then (s_seq ?_))
  refine s_cutK (ks := [some b1, k6, k5]) (ps := [Ex _ _, Rw _ _ _ _ _, Rw _ _ _ _ _]) [] trivial S (fun keep ks ps f' w' => ∃ u bb, f' = upds u ((0, .bool bb) :: keep) ∧ (bb = true ↔ True) ∧ St w0 w' [] ks ps) ?_ ?_
  · refine s_plain ?_
    refine p_val (e_buildS bt46 (Eq.trans (fill_cat (v := .int _ _) (l' := [[_]]) 0 1 rfl (rfl) (by first | with_reducible assumption | (simp [cat, sgdC, zero_ok.1, zero_ok.2]; done) | (simp [cat, sgdC, zero_ok.1, zero_ok.2]; omega) | rfl) (by first | with_reducible assumption | (simp [cat, sgdC, zero_ok.1, zero_ok.2]; done) | (simp [cat, sgdC, zero_ok.1, zero_ok.2]; omega) | rfl) (by first | with_reducible assumption | (simp [cat, sgdC, zero_ok.1, zero_ok.2]; done) | (simp [cat, sgdC, zero_ok.1, zero_ok.2]; omega) | rfl)) rfl)) rfl ?_
    refine p_does (d_call Try.func22 nm22 rfl rfl (rc_right _ ⟨16, 0, 0, zsum, zsum⟩ ⟨length_zsum, length_zsum⟩)) rfl ?_
    rintro _ w ⟨rfl, hB⟩
    have S := S.below hB
    rcases Classical.em (Rcp.right ⟨16, 0, 0, zsum, zsum⟩) with hg10 | hg10
    · exact False.elim (by simp [Rcp.right] at hg10)
    · rw [decide_eq_false hg10]
      refine p_val (e_not rfl) rfl ?_
      refine p_val (e_move (v := .bool _) rfl) rfl ?_
      refine pg_val rfl rfl rfl rfl rfl (e_buildS bt46 (Eq.trans (fill_cat (v := .int _ _) (l' := [[_]]) 0 1 rfl (rfl) (by first | with_reducible assumption | (simp [cat, sgdC, zero_ok.1, zero_ok.2]; done) | (simp [cat, sgdC, zero_ok.1, zero_ok.2]; omega) | rfl) (by first | with_reducible assumption | (simp [cat, sgdC, zero_ok.1, zero_ok.2]; done) | (simp [cat, sgdC, zero_ok.1, zero_ok.2]; omega) | rfl) (by first | with_reducible assumption | (simp [cat, sgdC, zero_ok.1, zero_ok.2]; done) | (simp [cat, sgdC, zero_ok.1, zero_ok.2]; omega) | rfl)) rfl)) ?_
      refine pg_does rfl rfl rfl rfl rfl (d_call Try.func22 nm22 rfl rfl (rc_right _ ⟨15, 0, 0, zsum, zsum⟩ ⟨length_zsum, length_zsum⟩)) ?_
      rintro _ w ⟨rfl, hB⟩
      have S := S.below hB
      rcases Classical.em (Rcp.right ⟨15, 0, 0, zsum, zsum⟩) with hg14 | hg14
      · rw [decide_eq_true hg14]
        refine p_val (e_pick_t rfl rfl) rfl ?_
        refine p_val (e_move (v := .bool _) rfl) rfl ?_
        refine pg_val rfl rfl rfl rfl rfl (e_move (v := .int _ _) rfl) ?_
        refine pg_val rfl rfl rfl rfl rfl (e_eql rfl rfl) ?_
        refine p_val (e_pick_t rfl rfl) rfl ?_
        refine p_val (e_assign (v := .bool _) rfl) rfl ?_
        exact p_nil (x_then ⟨_, rfl, _, _, upds_eq ⟨rfl, trivial⟩, by first | (simp only [decide_eq_true_eq, eq_self, true_iff, iff_true, iff_false, Bool.false_eq_true, false_iff, ge_iff_le, gt_iff_lt, true_and, and_true, false_and, and_false, true_or, or_true, false_or, or_false, not_true_eq_false, not_false_eq_true]; omega) | simp | omega | simp_all, S⟩)
      · exact False.elim (hg14 (by simp [Rcp.right]))
  · rintro f w ⟨u, b0, rfl, hb0, S⟩
    refine x_then (s_ret ?_)
    exact post1 (v := .bool _) Try.results24 rfl (⟨by rw [hb0.2 trivial], S.to_below⟩)
end Go.Proofs.Ytcgcjklpilbndaa

/- What is read of messages' bytes: plain laws. It proves no statement by itself. -/
set_option linter.unusedSimpArgs false
set_option linter.unusedVariables false
set_option maxRecDepth 100000
set_option maxHeartbeats 1000000
namespace Go.Proofs.Ytcgcjklpilbndaa
open Go Go.RowKit E
def rSgn (e : Int) (l : List Nat) : Int × List Nat × Int × List Nat := ((rUpto 255 e l).1, (rSum (rUpto 255 e l).2.1 (rUpto 255 e l).2.2).1, (rSum (rUpto 255 e l).2.1 (rUpto 255 e l).2.2).2)
structure RB where
  m : Msg
  (b s : List Nat)
  (e2 e : Int)
  l : List Nat
structure RM where
  m : Msg
  (b s : List Nat)
  e : Int
def mz (k f t : Int) : Msg := ⟨k, f, t, 0, 0, 0, zsum, zsum, 0, zsum, 0, zsum, Jb.zero, Rcp.zero⟩
def rBody (m0 : Msg) (e : Int) (l : List Nat) : RB :=
  if m0.k = 1 then
    let a := rUpto 1048576 e l
    let b := rUpto 1125899906842624 a.2.1 a.2.2
    let c := rUpto 1125899906842624 b.2.1 b.2.2
    let h := rSum c.2.1 c.2.2
    let g := rSum h.2.1 h.2.2
    let q := rSgn g.2.1 g.2.2
    ⟨{ m0 with n := a.1, c := b.1, p := c.1, h0 := h.1, h1 := g.1, gk := q.1, go := q.2.1 }, [], [], 0, q.2.2.1, q.2.2.2⟩
  else if m0.k = 2 then
    let a := rUpto 1048576 e l
    let h := rSum a.2.1 a.2.2
    let q := rSgn h.2.1 h.2.2
    ⟨{ m0 with m := a.1, sec := h.1, gk := q.1, go := q.2.1 }, [], [], 0, q.2.2.1, q.2.2.2⟩
  else if m0.k = 3 then
    let a := rUpto 1048576 e l
    let h := rSum a.2.1 a.2.2
    ⟨{ m0 with m := a.1, sec := h.1 }, [], [], 0, h.2.1, h.2.2⟩
  else if m0.k = 4 then
    let x := rText 65536 e l
    ⟨{ m0 with j := (rJob x.1).1 }, (rJob x.1).2.1, [], (rJob x.1).2.2, x.2.1, x.2.2⟩
  else if m0.k = 5 then
    let x := rText 65536 e l
    ⟨{ m0 with r := (rSgd x.1).1 }, [], (rSgd x.1).2.1, (rSgd x.1).2.2, x.2.1, x.2.2⟩
  else ⟨m0, [], [], 0, e, l⟩
def rMsg (l : List Nat) : RM :=
  let a := rUpto 5 0 l
  let b := rUpto 255 a.2.1 a.2.2
  let c := rUpto 255 b.2.1 b.2.2
  let q := rBody (mz a.1 b.1 c.1) c.2.1 c.2.2
  let d := rDone q.e q.l
  if ¬ d = 0 then ⟨mz 0 0 0, [], [], d⟩ else if ¬ q.e2 = 0 then ⟨mz 0 0 0, [], [], q.e2⟩ else if ¬ q.m.right then ⟨mz 0 0 0, [], [], 4⟩ else ⟨q.m, q.b, q.s, 0⟩
/-- 'x' was read: if nothing went wrong, nothing had, and what was there began with x -/
def Rds (e : Int) (l x : List Nat) (e' : Int) (l' : List Nat) (p : Prop) : Prop := e' = 0 → e = 0 ∧ (Bytes l → l = x ++ l' ∧ Bytes l' ∧ p)
theorem Rds.trans {e e1 e2 : Int} {l x l1 y l2 : List Nat} {p q : Prop} (h : Rds e l x e1 l1 p) (h' : Rds e1 l1 y e2 l2 q) : Rds e l (x ++ y) e2 l2 (p ∧ q) := fun h0 => by
  obtain ⟨h1, k1⟩ := h' h0
  obtain ⟨h2, k2⟩ := h h1
  refine ⟨h2, fun hB => ?_⟩
  obtain ⟨a1, a2, a3⟩ := k2 hB
  obtain ⟨b1, b2, b3⟩ := k1 a2
  exact ⟨by rw [a1, b1, List.append_assoc], b2, a3, b3⟩
theorem Rds.refl (e : Int) (l : List Nat) : Rds e l [] e l True := fun h => ⟨h, fun hB => ⟨rfl, hB, trivial⟩⟩
theorem Rds.imp {e e1 : Int} {l x l1 : List Nat} {p q : Prop} (h : Rds e l x e1 l1 p) (hp : p → q) : Rds e l x e1 l1 q := fun h0 => ⟨(h h0).1, fun hB => let k := (h h0).2 hB; ⟨k.1, k.2.1, hp k.2.2⟩⟩
theorem rUpto_no {e m : Int} (hm : 0 ≤ m) (hz : ¬ e = 0) (l : List Nat) : rUpto m e l = (0, e, l) := by
  rw [rUpto_of (e2 := e) (rNum_no hz l) (by rw [if_neg (by omega)]), if_neg hz]
theorem rUpto_rds {m : Int} (hm : 0 ≤ m) (e : Int) (l : List Nat) : Rds e l (num (rUpto m e l).1) (rUpto m e l).2.1 (rUpto m e l).2.2 (0 ≤ (rUpto m e l).1 ∧ (rUpto m e l).1 ≤ m) := fun h0 => by
  have he : e = 0 := by
    by_cases hz : e = 0
    · exact hz
    · rw [rUpto_no hm hz] at h0; exact absurd h0 hz
  refine ⟨he, fun hB => ?_⟩
  have h := rUpto_inv (m := m) (e := e) (a := (rUpto m e l).1) (l := l) (l' := (rUpto m e l).2.2) hB (by rw [← h0])
  exact ⟨h.2.1, fun y hy => hB y (by rw [h.2.1]; exact List.mem_append.2 (.inr hy)), h.2.2.1, h.2.2.2.1⟩
theorem rSum_rds (e : Int) (l : List Nat) : Rds e l (rSum e l).1 (rSum e l).2.1 (rSum e l).2.2 ((rSum e l).1.length = 32) := fun h0 => by
  have h := rSum_inv (e := e) (s := (rSum e l).1) (l := l) (l' := (rSum e l).2.2) (by rw [← h0])
  exact ⟨h.1, fun hB => ⟨h.2.1, fun y hy => hB y (by rw [h.2.1]; exact List.mem_append.2 (.inr hy)), h.2.2⟩⟩
theorem rText_rds {m : Int} (hm : 0 ≤ m) (e : Int) (l : List Nat) : Rds e l (num (rText m e l).1.length ++ (rText m e l).1) (rText m e l).2.1 (rText m e l).2.2 (Bytes (rText m e l).1) := fun h0 => by
  have he : e = 0 := by
    by_cases hz : e = 0
    · exact hz
    · rw [rText_no hm hz] at h0; exact absurd h0 hz
  refine ⟨he, fun hB => ?_⟩
  have h := rText_inv (m := m) (e := e) (s := (rText m e l).1) (l := l) (l' := (rText m e l).2.2) hB (by rw [← h0])
  exact ⟨h.2.1.trans (List.append_assoc _ _ _).symm, fun y hy => hB y (by rw [h.2.1]; simp [hy]), rText_bytes (m := m) (e := e) (e1 := (rText m e l).2.1) (l' := (rText m e l).2.2) hB rfl⟩
theorem rSgn_rds (e : Int) (l : List Nat) : Rds e l (num (rSgn e l).1 ++ (rSgn e l).2.1) (rSgn e l).2.2.1 (rSgn e l).2.2.2 (0 ≤ (rSgn e l).1 ∧ (rSgn e l).1 ≤ 255) :=
  ((rUpto_rds (by decide) e l).trans (rSum_rds _ _)).imp fun h => h.1
theorem job_rds {l : List Nat} (hB : Bytes l) (h : (rJob l).2.2 = 0) : jput (rJob l).1 (rJob l).2.1 = l ∧ (rJob l).1.plain := by
  unfold rJob at h ⊢
  simp only at h ⊢
  split at h
  · rename_i hd
    rw [if_pos hd]
    obtain ⟨e1, e2⟩ := rDone_inv hd
    have k := ((((rUpto_rds (m := 1048576) (by decide) 0 l).trans (rUpto_rds (m := 1048576) (by decide) _ _)).trans (rSum_rds _ _)).trans (rText_rds (m := 65536) (by decide) _ _)) e1
    obtain ⟨k1, _, k3⟩ := k.2 hB
    refine ⟨?_, k3.1.1.1.1, k3.1.1.1.2, k3.1.1.2.1, k3.1.1.2.2⟩
    rw [e2] at k1
    unfold jput
    simp only [nums, List.flatMap_cons, List.flatMap_nil, List.append_nil] at k1 ⊢
    refine Eq.trans ?_ k1.symm
    simp only [List.append_assoc]
  · rename_i hd; exact absurd h hd
theorem mz_ok (k f t : Int) : (mz k f t).ok := ⟨length_zsum, length_zsum, length_zsum, length_zsum, length_zsum, length_zsum, length_zsum⟩
theorem rSum_len (e : Int) (l : List Nat) : (rSum e l).1.length = 32 := length_sum32 _
theorem body_ok (k f t e : Int) (l : List Nat) : (rBody (mz k f t) e l).m.ok := by
  unfold rBody
  split
  · exact ⟨rSum_len _ _, rSum_len _ _, rSum_len _ _, length_zsum, length_zsum, length_zsum, length_zsum⟩
  · split
    · exact ⟨length_zsum, length_zsum, rSum_len _ _, rSum_len _ _, length_zsum, length_zsum, length_zsum⟩
    · split
      · exact ⟨length_zsum, length_zsum, length_zsum, rSum_len _ _, length_zsum, length_zsum, length_zsum⟩
      · split
        · exact ⟨length_zsum, length_zsum, length_zsum, length_zsum, jb_ok _, length_zsum, length_zsum⟩
        · split
          · exact ⟨length_zsum, length_zsum, length_zsum, length_zsum, length_zsum, (sgd_ok _).1, (sgd_ok _).2⟩
          · exact mz_ok k f t
theorem body_kft (k f t e : Int) (l : List Nat) : (rBody (mz k f t) e l).m.k = k ∧ (rBody (mz k f t) e l).m.f = f ∧ (rBody (mz k f t) e l).m.t = t := by
  unfold rBody
  split
  · exact ⟨rfl, rfl, rfl⟩
  · split
    · exact ⟨rfl, rfl, rfl⟩
    · split
      · exact ⟨rfl, rfl, rfl⟩
      · split
        · exact ⟨rfl, rfl, rfl⟩
        · split
          · exact ⟨rfl, rfl, rfl⟩
          · exact ⟨rfl, rfl, rfl⟩
theorem zplain : (mz 0 0 0).plain := by decide
theorem zp0 : ((0 : Int) ≤ 0 ∧ (0 : Int) ≤ 1048576 ∧ (0 : Int) ≤ 0 ∧ (0 : Int) ≤ 1125899906842624 ∧ (0 : Int) ≤ 0 ∧ (0 : Int) ≤ 1125899906842624) ∧ ((0 : Int) ≤ 0 ∧ (0 : Int) ≤ 255) ∧ (0 : Int) ≤ 0 ∧ (0 : Int) ≤ 1048576 := by decide
/-- A body that is read has just its bytes. -/
theorem body_rds (k f t : Int) (hk : 1 ≤ k ∧ k ≤ 5) (e : Int) (l : List Nat) (h2 : (rBody (mz k f t) e l).e2 = 0) :
    Rds e l (tbody (rBody (mz k f t) e l).m (rBody (mz k f t) e l).b (rBody (mz k f t) e l).s) (rBody (mz k f t) e l).e (rBody (mz k f t) e l).l (rBody (mz k f t) e l).m.plain := by
  by_cases h1 : k = 1
  · subst h1
    obtain ⟨a, ha⟩ : ∃ a, a = rUpto 1048576 e l := ⟨_, rfl⟩
    obtain ⟨b, hb⟩ : ∃ b, b = rUpto 1125899906842624 a.2.1 a.2.2 := ⟨_, rfl⟩
    obtain ⟨c, hc⟩ : ∃ c, c = rUpto 1125899906842624 b.2.1 b.2.2 := ⟨_, rfl⟩
    obtain ⟨h, hh⟩ : ∃ h, h = rSum c.2.1 c.2.2 := ⟨_, rfl⟩
    obtain ⟨g, hg⟩ : ∃ g, g = rSum h.2.1 h.2.2 := ⟨_, rfl⟩
    obtain ⟨q, hq⟩ : ∃ q, q = rSgn g.2.1 g.2.2 := ⟨_, rfl⟩
    have hr : rBody (mz 1 f t) e l = ⟨⟨1, f, t, a.1, b.1, c.1, h.1, g.1, q.1, q.2.1, 0, zsum, Jb.zero, Rcp.zero⟩, [], [], 0, q.2.2.1, q.2.2.2⟩ := by
      rw [hq, hg, hh, hc, hb, ha]; rfl
    have k1 := rUpto_rds (m := 1048576) (by decide) e l
    have k2 := rUpto_rds (m := 1125899906842624) (by decide) a.2.1 a.2.2
    have k3 := rUpto_rds (m := 1125899906842624) (by decide) b.2.1 b.2.2
    have k4 := rSum_rds c.2.1 c.2.2
    have k5 := rSum_rds h.2.1 h.2.2
    have k6 := rSgn_rds g.2.1 g.2.2
    rw [← ha] at k1
    rw [← hb] at k2
    rw [← hc] at k3
    rw [← hh] at k4
    rw [← hg] at k5
    rw [← hq] at k6
    have k := ((((k1.trans k2).trans k3).trans k4).trans k5).trans k6
    rw [hr]
    have ht : tbody ⟨1, f, t, a.1, b.1, c.1, h.1, g.1, q.1, q.2.1, 0, zsum, Jb.zero, Rcp.zero⟩ [] [] = num a.1 ++ num b.1 ++ num c.1 ++ h.1 ++ g.1 ++ (num q.1 ++ q.2.1) := by simp [tbody, nums]
    show Rds e l (tbody _ _ _) _ _ _
    rw [ht]
    refine k.imp fun hp => ?_
    obtain ⟨⟨⟨⟨⟨p1, p2⟩, p3⟩, _⟩, _⟩, p4⟩ := hp
    exact ⟨⟨⟨p1.1, p1.2, p2.1, p2.2, p3.1, p3.2⟩, p4, (show (0 : Int) ≤ 0 ∧ (0 : Int) ≤ 1048576 by decide)⟩, (show Jb.zero.plain by decide), (show Rcp.zero.right by decide)⟩
  · by_cases h2' : k = 2
    · subst h2'
      obtain ⟨a, ha⟩ : ∃ a, a = rUpto 1048576 e l := ⟨_, rfl⟩
      obtain ⟨h, hh⟩ : ∃ h, h = rSum a.2.1 a.2.2 := ⟨_, rfl⟩
      obtain ⟨q, hq⟩ : ∃ q, q = rSgn h.2.1 h.2.2 := ⟨_, rfl⟩
      have hr : rBody (mz 2 f t) e l = ⟨⟨2, f, t, 0, 0, 0, zsum, zsum, q.1, q.2.1, a.1, h.1, Jb.zero, Rcp.zero⟩, [], [], 0, q.2.2.1, q.2.2.2⟩ := by
        rw [hq, hh, ha]; rfl
      have k1 := rUpto_rds (m := 1048576) (by decide) e l
      have k4 := rSum_rds a.2.1 a.2.2
      have k6 := rSgn_rds h.2.1 h.2.2
      rw [← ha] at k1
      rw [← hh] at k4
      rw [← hq] at k6
      have k := (k1.trans k4).trans k6
      rw [hr]
      have ht : tbody ⟨2, f, t, 0, 0, 0, zsum, zsum, q.1, q.2.1, a.1, h.1, Jb.zero, Rcp.zero⟩ [] [] = num a.1 ++ h.1 ++ (num q.1 ++ q.2.1) := by simp [tbody]
      show Rds e l (tbody _ _ _) _ _ _
      rw [ht]
      refine k.imp fun hp => ?_
      obtain ⟨⟨p1, _⟩, p4⟩ := hp
      exact ⟨⟨(show (0 : Int) ≤ 0 ∧ (0 : Int) ≤ 1048576 ∧ (0 : Int) ≤ 0 ∧ (0 : Int) ≤ 1125899906842624 ∧ (0 : Int) ≤ 0 ∧ (0 : Int) ≤ 1125899906842624 by decide), p4, p1⟩, (show Jb.zero.plain by decide), (show Rcp.zero.right by decide)⟩
    · by_cases h3 : k = 3
      · subst h3
        obtain ⟨a, ha⟩ : ∃ a, a = rUpto 1048576 e l := ⟨_, rfl⟩
        obtain ⟨h, hh⟩ : ∃ h, h = rSum a.2.1 a.2.2 := ⟨_, rfl⟩
        have hr : rBody (mz 3 f t) e l = ⟨⟨3, f, t, 0, 0, 0, zsum, zsum, 0, zsum, a.1, h.1, Jb.zero, Rcp.zero⟩, [], [], 0, h.2.1, h.2.2⟩ := by
          rw [hh, ha]; rfl
        have k1 := rUpto_rds (m := 1048576) (by decide) e l
        have k4 := rSum_rds a.2.1 a.2.2
        rw [← ha] at k1
        rw [← hh] at k4
        have k := k1.trans k4
        rw [hr]
        have ht : tbody ⟨3, f, t, 0, 0, 0, zsum, zsum, 0, zsum, a.1, h.1, Jb.zero, Rcp.zero⟩ [] [] = num a.1 ++ h.1 := by simp [tbody]
        show Rds e l (tbody _ _ _) _ _ _
        rw [ht]
        refine k.imp fun hp => ?_
        exact ⟨⟨(show (0 : Int) ≤ 0 ∧ (0 : Int) ≤ 1048576 ∧ (0 : Int) ≤ 0 ∧ (0 : Int) ≤ 1125899906842624 ∧ (0 : Int) ≤ 0 ∧ (0 : Int) ≤ 1125899906842624 by decide), (show (0 : Int) ≤ 0 ∧ (0 : Int) ≤ 255 by decide), hp.1⟩, (show Jb.zero.plain by decide), (show Rcp.zero.right by decide)⟩
      · by_cases h4 : k = 4
        · subst h4
          have h2 : (rJob (rText 65536 e l).1).2.2 = 0 := h2
          intro h0
          have k := rText_rds (m := 65536) (by decide) e l h0
          refine ⟨k.1, fun hB => ?_⟩
          obtain ⟨k1, k2, k3⟩ := k.2 hB
          obtain ⟨j1, j2⟩ := job_rds k3 h2
          refine ⟨?_, k2, zp0, j2, (show Rcp.zero.right by decide)⟩
          refine k1.trans ?_
          show _ = (num (jput (rJob (rText 65536 e l).1).1 (rJob (rText 65536 e l).1).2.1).length ++ jput (rJob (rText 65536 e l).1).1 (rJob (rText 65536 e l).1).2.1) ++ _
          rw [j1]
          rfl
        · have h5 : k = 5 := by omega
          subst h5
          have h2 : (rSgd (rText 65536 e l).1).2.2 = 0 := h2
          intro h0
          have k := rText_rds (m := 65536) (by decide) e l h0
          refine ⟨k.1, fun hB => ?_⟩
          obtain ⟨k1, k2, k3⟩ := k.2 hB
          obtain ⟨j1, j2, _, _⟩ := sgd_inv k3 h2
          refine ⟨?_, k2, zp0, (show Jb.zero.plain by decide), j1⟩
          refine k1.trans ?_
          show _ = (num (sput (rSgd (rText 65536 e l).1).1 (rSgd (rText 65536 e l).1).2.1).length ++ sput (rSgd (rText 65536 e l).1).1 (rSgd (rText 65536 e l).1).2.1) ++ _
          rw [j2]
          rfl
theorem tk_no {l : List Nat} (h : ¬ (rMsg l).e = 0) : rMsg l = ⟨mz 0 0 0, [], [], (rMsg l).e⟩ := by
  unfold rMsg at h ⊢
  simp only at h ⊢
  split
  · rfl
  · split
    · rfl
    · split
      · rfl
      · rename_i h1 h2 h3
        rw [if_neg h1, if_neg h2, if_neg h3] at h
        exact absurd rfl h
/-- what is known of a message that is read -/
theorem tk_yes {l : List Nat} (h : (rMsg l).e = 0) : ∃ q : RB, q = rBody (mz (rUpto 5 0 l).1 (rUpto 255 (rUpto 5 0 l).2.1 (rUpto 5 0 l).2.2).1 (rUpto 255 (rUpto 255 (rUpto 5 0 l).2.1 (rUpto 5 0 l).2.2).2.1 (rUpto 255 (rUpto 5 0 l).2.1 (rUpto 5 0 l).2.2).2.2).1) (rUpto 255 (rUpto 255 (rUpto 5 0 l).2.1 (rUpto 5 0 l).2.2).2.1 (rUpto 255 (rUpto 5 0 l).2.1 (rUpto 5 0 l).2.2).2.2).2.1 (rUpto 255 (rUpto 255 (rUpto 5 0 l).2.1 (rUpto 5 0 l).2.2).2.1 (rUpto 255 (rUpto 5 0 l).2.1 (rUpto 5 0 l).2.2).2.2).2.2 ∧
    rDone q.e q.l = 0 ∧ q.e2 = 0 ∧ q.m.right ∧ (rMsg l).m = q.m ∧ (rMsg l).b = q.b ∧ (rMsg l).s = q.s := by
  refine ⟨_, rfl, ?_⟩
  unfold rMsg at h ⊢
  simp only at h ⊢
  split at h
  · rename_i h1; exact absurd h h1
  · rename_i h1
    split at h
    · rename_i h2; exact absurd h h2
    · rename_i h2
      split at h
      · exact absurd h (by decide)
      · rename_i h3
        rw [if_neg h1, if_neg h2, if_neg h3]
        exact ⟨Classical.not_not.1 h1, Classical.not_not.1 h2, Classical.not_not.1 h3, rfl, rfl, rfl⟩
theorem tk_ok (l : List Nat) : (rMsg l).m.ok := by
  by_cases h : (rMsg l).e = 0
  · obtain ⟨q, hq, _, _, _, hm, _⟩ := tk_yes h
    rw [hm, hq]; exact body_ok _ _ _ _ _
  · rw [tk_no h]; exact mz_ok 0 0 0
theorem tk_inv {l : List Nat} (hB : Bytes l) (h : (rMsg l).e = 0) : (rMsg l).m.right ∧ (rMsg l).m.plain ∧ tput (rMsg l).m (rMsg l).b (rMsg l).s = l := by
  obtain ⟨q, hq, hd, h2, hr, hm, hb, hs⟩ := tk_yes h
  rw [hm, hb, hs]
  obtain ⟨a, ha⟩ : ∃ a, a = rUpto 5 0 l := ⟨_, rfl⟩
  obtain ⟨b, hb'⟩ : ∃ b, b = rUpto 255 a.2.1 a.2.2 := ⟨_, rfl⟩
  obtain ⟨c, hc⟩ : ∃ c, c = rUpto 255 b.2.1 b.2.2 := ⟨_, rfl⟩
  rw [← ha, ← hb', ← hc] at hq
  obtain ⟨e1, e2⟩ := rDone_inv hd
  have kft := body_kft a.1 b.1 c.1 c.2.1 c.2.2
  rw [← hq] at kft
  have k1 := rUpto_rds (m := 5) (by decide) 0 l
  have k2 := rUpto_rds (m := 255) (by decide) a.2.1 a.2.2
  have k3 := rUpto_rds (m := 255) (by decide) b.2.1 b.2.2
  have hk : 1 ≤ a.1 ∧ a.1 ≤ 5 := by rw [← kft.1]; exact ⟨hr.1, hr.2.1⟩
  have k4 := body_rds a.1 b.1 c.1 hk c.2.1 c.2.2 (by rw [← hq]; exact h2)
  rw [← ha] at k1
  rw [← hb'] at k2
  rw [← hc] at k3
  rw [← hq] at k4
  have k := (((k1.trans k2).trans k3).trans k4) e1
  obtain ⟨x1, _, x3⟩ := k.2 hB
  refine ⟨hr, x3.2, ?_⟩
  rw [e2] at x1
  unfold tput
  rw [kft.1, kft.2.1, kft.2.2]
  refine Eq.trans ?_ x1.symm
  simp [nums]
theorem jb_back {j : Jb} {b : List Nat} (hj : j.ok) (h : j.plain) (hb : b.length ≤ 65536) : rJob (jput j b) = (j, b, 0) := by
  have hj' : j.h.length = 32 := hj
  have e : jput j b = num j.c ++ (num j.s ++ (j.h ++ (num b.length ++ (b ++ [])))) := by simp [jput, nums]
  unfold rJob
  rw [e]
  simp only [rUpto_num (a := j.c) (m := 1048576) ⟨h.1, h.2.1⟩ (by decide), rUpto_num (a := j.s) (m := 1048576) ⟨h.2.2.1, h.2.2.2⟩ (by decide), rSum_sum hj', rText_text (s := b) (m := 65536) (by omega) (by decide), rDone_nil, if_true]
theorem body_back {m : Msg} {b s : List Nat} (hm : m.ok) (hr : m.right) (hp : m.plain) (hb : b.length ≤ 60000) (hs : s.length ≤ 60000) :
    (rBody (mz m.k m.f m.t) 0 (tbody m b s)).e2 = 0 ∧ (rBody (mz m.k m.f m.t) 0 (tbody m b s)).e = 0 ∧ (rBody (mz m.k m.f m.t) 0 (tbody m b s)).l = [] := by
  obtain ⟨⟨⟨p1, p2, p3, p4, p5, p6⟩, ⟨p7, p8⟩, p9, p10⟩, p11, p12⟩ := hp
  have hj := jput_len (b := b) (j := m.j) hm.j
  have hrr : m.r.ok := ⟨hm.rh, hm.rb⟩
  have hsl := sput_len (s := s) hrr
  have hmk : ∀ k : Int, (mz k m.f m.t).k = k := fun _ => rfl
  by_cases h1 : m.k = 1
  · have e : tbody m b s = num m.n ++ (num m.c ++ (num m.p ++ (m.h0 ++ (m.h1 ++ (num m.gk ++ (m.go ++ [])))))) := by simp [tbody, h1, nums]
    rw [e]
    unfold rBody
    rw [hmk, if_pos h1]
    simp only [rSgn, rUpto_num (a := m.n) (m := 1048576) ⟨p1, p2⟩ (by decide), rUpto_num (a := m.c) (m := 1125899906842624) ⟨p3, p4⟩ (by decide), rUpto_num (a := m.p) (m := 1125899906842624) ⟨p5, p6⟩ (by decide), rSum_sum hm.h0, rSum_sum hm.h1, rSum_sum hm.go, rUpto_num (a := m.gk) (m := 255) ⟨p7, p8⟩ (by decide)]
    exact ⟨by trivial, by trivial, by trivial⟩
  · by_cases h2 : m.k = 2
    · have e : tbody m b s = num m.m ++ (m.sec ++ (num m.gk ++ (m.go ++ []))) := by simp [tbody, h2]
      rw [e]
      unfold rBody
      rw [hmk, if_neg h1, if_pos h2]
      simp only [rSgn, rUpto_num (a := m.m) (m := 1048576) ⟨p9, p10⟩ (by decide), rSum_sum hm.sec, rSum_sum hm.go, rUpto_num (a := m.gk) (m := 255) ⟨p7, p8⟩ (by decide)]
      exact ⟨by trivial, by trivial, by trivial⟩
    · by_cases h3 : m.k = 3
      · have e : tbody m b s = num m.m ++ (m.sec ++ []) := by simp [tbody, h3]
        rw [e]
        unfold rBody
        rw [hmk, if_neg h1, if_neg h2, if_pos h3]
        simp only [rUpto_num (a := m.m) (m := 1048576) ⟨p9, p10⟩ (by decide), rSum_sum hm.sec]
        exact ⟨by trivial, by trivial, by trivial⟩
      · by_cases h4 : m.k = 4
        · have e : tbody m b s = num (jput m.j b).length ++ (jput m.j b ++ []) := by simp [tbody, h4]
          rw [e]
          unfold rBody
          rw [hmk, if_neg h1, if_neg h2, if_neg h3, if_pos h4]
          simp only [rText_text (s := jput m.j b) (m := 65536) (by omega) (by decide), jb_back (b := b) hm.j p11 (by omega)]
          exact ⟨by trivial, by trivial, by trivial⟩
        · have h5 : m.k = 5 := by have := hr.1; have := hr.2.1; omega
          have e : tbody m b s = num (sput m.r s).length ++ (sput m.r s ++ []) := by simp [tbody, h5]
          rw [e]
          unfold rBody
          rw [hmk, if_neg h1, if_neg h2, if_neg h3, if_neg h4, if_pos h5]
          simp only [rText_text (s := sput m.r s) (m := 65536) (by omega) (by decide), sgd_back (s := s) hrr p12 (by omega)]
          exact ⟨by trivial, by trivial, by trivial⟩
theorem tk_front {m : Msg} {b s : List Nat} (hr : m.right) : rUpto 5 0 (tput m b s) = (m.k, 0, num m.f ++ (num m.t ++ tbody m b s)) ∧ rUpto 255 0 (num m.f ++ (num m.t ++ tbody m b s)) = (m.f, 0, num m.t ++ tbody m b s) ∧ rUpto 255 0 (num m.t ++ tbody m b s) = (m.t, 0, tbody m b s) := by
  have e : tput m b s = num m.k ++ (num m.f ++ (num m.t ++ tbody m b s)) := by simp [tput, nums]
  obtain ⟨h1, h2, h3, h4, h5, h6, _⟩ := hr
  rw [e]
  exact ⟨rUpto_num ⟨by omega, h2⟩ (by decide) _, rUpto_num ⟨h3, h4⟩ (by decide) _, rUpto_num ⟨h5, h6⟩ (by decide) _⟩
theorem tk_back {m : Msg} {b s : List Nat} (hm : m.ok) (hr : m.right) (hp : m.plain) (hb : b.length ≤ 60000) (hs : s.length ≤ 60000) : (rMsg (tput m b s)).e = 0 := by
  obtain ⟨f1, f2, f3⟩ := tk_front (b := b) (s := s) hr
  obtain ⟨g1, g2, g3⟩ := body_back hm hr hp hb hs
  have kft := body_kft m.k m.f m.t 0 (tbody m b s)
  unfold rMsg
  simp only [f1, f2, f3, g1, g2, g3, rDone_nil]
  have hr' : (rBody (mz m.k m.f m.t) 0 (tbody m b s)).m.right := by unfold Msg.right; rw [kft.1, kft.2.1, kft.2.2]; exact hr
  rw [if_neg (by decide), if_neg (by decide), if_neg (fun h => h hr')]
theorem tk_kft {m : Msg} {b s : List Nat} (hr : m.right) (h : (rMsg (tput m b s)).e = 0) : (rMsg (tput m b s)).m.k = m.k ∧ (rMsg (tput m b s)).m.f = m.f ∧ (rMsg (tput m b s)).m.t = m.t := by
  obtain ⟨f1, f2, f3⟩ := tk_front (b := b) (s := s) hr
  obtain ⟨q, hq, _, _, _, hm, _⟩ := tk_yes h
  rw [hm, hq]
  simp only [f1, f2, f3]
  exact body_kft _ _ _ _ _
theorem rText_le (e : Int) (l : List Nat) : (rText 65536 e l).1.length ≤ 65536 := by
  have h := rText_len (m := 65536) (by decide) (e := e) (l := l) (s := (rText 65536 e l).1) (e1 := (rText 65536 e l).2.1) (l1 := (rText 65536 e l).2.2) rfl
  omega
theorem job_len (l : List Nat) : (rJob l).2.1.length ≤ 65536 := by
  unfold rJob
  simp only
  split
  · exact rText_le _ _
  · simp
theorem sgd_len (l : List Nat) : (rSgd l).2.1.length ≤ 65536 := by
  unfold rSgd
  simp only
  split
  · split
    · exact rText_le _ _
    · simp
  · simp
theorem body_len (m0 : Msg) (e : Int) (l : List Nat) : (rBody m0 e l).b.length ≤ 65536 ∧ (rBody m0 e l).s.length ≤ 65536 := by
  unfold rBody
  split
  · exact ⟨by simp, by simp⟩
  · split
    · exact ⟨by simp, by simp⟩
    · split
      · exact ⟨by simp, by simp⟩
      · split
        · exact ⟨job_len _, by simp⟩
        · split
          · exact ⟨by simp, sgd_len _⟩
          · exact ⟨by simp, by simp⟩
theorem tk_len (l : List Nat) : (rMsg l).b.length ≤ 65536 ∧ (rMsg l).s.length ≤ 65536 := by
  by_cases h : (rMsg l).e = 0
  · obtain ⟨q, hq, _, _, _, _, hb, hs⟩ := tk_yes h
    rw [hb, hs, hq]; exact body_len _ _ _
  · rw [tk_no h]; exact ⟨by simp, by simp⟩
structure Msg.byt (m : Msg) : Prop where
  h0 : Bytes m.h0
  h1 : Bytes m.h1
  go : Bytes m.go
  sec : Bytes m.sec
  j : Bytes m.j.h
  r : m.r.byt
theorem nums_by (l : List Int) : Bytes (nums l) := by
  intro x hx
  unfold nums at hx
  obtain ⟨a, _, h⟩ := List.mem_flatMap.1 hx
  exact num_lt a x h
theorem jput_by {j : Jb} {b : List Nat} (hj : Bytes j.h) (hb : Bytes b) : Bytes (jput j b) := by
  unfold jput
  exact app_lt (app_lt (app_lt (nums_by _) hj) (num_lt _)) hb
theorem tput_by {m : Msg} {b s : List Nat} (h : m.byt) (hb : Bytes b) (hs : Bytes s) : Bytes (tput m b s) := by
  unfold tput tbody
  refine app_lt (nums_by _) ?_
  split
  · exact app_lt (app_lt (app_lt (app_lt (nums_by _) h.h0) h.h1) (num_lt _)) h.go
  · split
    · exact app_lt (app_lt (app_lt (num_lt _) h.sec) (num_lt _)) h.go
    · split
      · exact app_lt (num_lt _) h.sec
      · split
        · exact app_lt (num_lt _) (jput_by h.j hb)
        · exact app_lt (num_lt _) (sput_lt h.r hs)
end Go.Proofs.Ytcgcjklpilbndaa

/- Structs stored into a part of a struct; arrays of arrays put together. It proves no statement by itself. -/
set_option linter.unusedSimpArgs false
set_option linter.unusedVariables false
namespace Go.Proofs.Ytcgcjklpilbndaa.E
open Go Go.RowKit
section
variable {P : Program} {ρ : Operand → Value} {d : Option Tmp} {x y : Operand} {t ty : TypeId} {ps : String} {af : Array Edge} {g : Option (Nat × Bool)} {w w0 : World} {ex : List Nat} {ks : List (Option Nat)} {pp : List (Option Obj → Prop)}
theorem d_storeFS (S : St w0 w ex ks pp) (j i n : Nat) {b off s : Nat} {l l' : List (List Value)} {e : TypeId} (hx : ρ x = .pointer (some ((⟨b, 0, none⟩ : Addr).add off))) (hy : ρ y = .agg (cat l').toArray) (h1 : ∀ v ∈ cat l', v.oneCell' = true) (hs : Sz P t s) (hv : (cat l').length = s)
    (hk : ks[j]? = some (some b)) (hp : pp[j]? = some (Ex (cat l).toArray e)) (ho : (cat (l.take i)).length = off) (hn : (cat ((l.drop i).take n)).length = s) :
    Does P ρ { dst := d, op := .store t x y, type := ty, pos := ps, after := af, guard := g } w fun _ w' => St w0 w' ex ks (pp.set j (Ex (cat (l.take i ++ l' ++ l.drop (i + n))).toArray e)) := by
  have hsp := cat_split l i n
  have hl : (cat l).length = off + s + (cat (l.drop (i + n))).length := by rw [hsp]; simp only [List.length_append]; omega
  have h := d_storeN (P := P) (ρ := ρ) (d := d) (x := x) (y := y) (t := t) (ty := ty) (ps := ps) (af := af) (g := g) S j (m := off) hx hy h1 hs hv hk hp (by rw [List.size_toArray]; omega)
  have e1 : ((cat l).toArray.toList.take off ++ cat l' ++ (cat l).toArray.toList.drop (off + s)).toArray = (cat (l.take i ++ l' ++ l.drop (i + n))).toArray := by
    congr 1
    show (cat l).take off ++ cat l' ++ (cat l).drop (off + s) = _
    rw [cat_append, cat_append]
    conv => lhs; rw [hsp]
    rw [← ho, ← hn, seg3]
  rwa [e1] at h
theorem e_buildA {parts : List (Nat × Operand)} {zc l : List (List Value)} {n s : Nat} {e : TypeId} (hu : P.underlying t = some (.array n e)) (hs : Sz P e s) (hz : Zv P t (.agg (cat zc).toArray)) (h : Instr.fill (fun i => some (i * s, s)) (cat zc).toArray (parts.map fun (q : Nat × Operand) => (q.1, ρ q.2)) = some (cat l).toArray) :
    (execOp ρ { dst := d, op := .build t parts.toArray, type := ty, pos := ps, after := af, guard := g }).run P w = .ok (.value (.agg (cat l).toArray)) w := by
  have hz' := hz w
  have hs' := hs w
  simp [execOp, Instr.build, hz', hs', run_underlying hu, Value.cells]
  rw [h]
  simp
end
end Go.Proofs.Ytcgcjklpilbndaa.E

/- What is read of messages' bytes, walked. It proves no statement by itself. -/
set_option linter.unusedSimpArgs false
set_option linter.unusedVariables false
set_option maxRecDepth 100000
set_option maxHeartbeats 4000000
namespace Go.Proofs.Ytcgcjklpilbndaa
open Go Go.RowKit E
attribute [local irreducible] wpList seqH treeH
theorem zA2 : Zv Try.prog 76 (.agg (cat [bv zsum, bv zsum]).toArray) := zv_of (by kernel_rfl)
theorem tk_sign (w0 : World) (hb : Nat) (A : Option Addr) (c : Nat) (e : Int) (l : List Nat) (S0 : St w0 w0 (exOf [some hb]) [some hb] [eyeE A c e l]) (R : Rd w0 1 A l.length (bv l)) (oR : Off A l.length (exOf [some hb])) (bR : Bytes l) (cR : l.length ≤ c) (nR : l.length ≤ 1099511000000) :
    Ret Try.prog 68 [.pointer (some ⟨hb, 0, none⟩)] w0 fun v w' => ∃ a s e1 l1 A1 c1, rSgn e l = (a, s, e1, l1) ∧ List.length s = 32 ∧ v = .agg (cat [[.int .i64 a], bv s]).toArray ∧ EyeTo A c l A1 c1 l1 ∧ St w0 w' (exOf [some hb]) [some hb] [eyeE A1 c1 e1 l1] := by
  refine enter Try.func68 rfl Try.ntmps68 (Nat.le_of_ble_eq_true rfl) ?_
  have S := S0
  refine s_seq (s_plain ?_)
  refine p_does (d_allocA S zs80) rfl ?_
  rintro _ w ⟨b2, rfl, S⟩
  refine p_nil (x_then (s_seq (s_plain ?_)))
  refine p_val (e_move (v := .pointer _) rfl) rfl ?_
  refine p_does (d_call Try.func53 nm53 rfl rfl (eye_upto _ _ _ _ _ _ _ (S.hr [1] rfl) (S.rdOff R oR) (S.offOld [1] R (by decide) oR rfl) bR cR nR)) rfl ?_
  rintro _ w ⟨a4, e4, l4, A4, c4, q4, rfl, t4, T⟩
  have S := (S.call [1] T rfl).pk [1, 0] rfl
  have R4 := t4.rd _ R
  have bR4 := t4.by_ bR
  have cR4 := t4.cap
  have nR4 := t4.len nR
  have oR4 := t4.off _ oR
  refine p_val (e_move (v := .pointer _) rfl) rfl ?_
  refine p_does (d_call Try.func54 nm54 rfl rfl (eye_sum _ _ _ _ _ _ (S.hr [1] rfl) (S.rdOff R4 oR4) (S.offOld [1] R4 (by decide) oR4 rfl) bR4 cR4 nR4)) rfl ?_
  rintro _ w ⟨s6, e6, l6, A6, c6, q6, hs6, rfl, t6, T⟩
  have S := (S.call [1] T rfl).pk [1, 0] rfl
  have R6 := t6.rd _ R4
  have bR6 := t6.by_ bR4
  have cR6 := t6.cap
  have nR6 := t6.len nR4
  have oR6 := t6.off _ oR4
  refine p_val (e_buildS bt80 (Eq.trans (fill_cat (v := .int _ _) (l' := [[_]]) 0 1 rfl (rfl) (by first | with_reducible assumption | (rw [bv_length]; with_reducible assumption) | (rw [List.size_toArray, bv_length]; with_reducible assumption) | (simp [cat, zc80, length_zsum, Value.cells, hs6]; done) | (simp [cat, zc80, length_zsum, Value.cells, hs6]; omega) | rfl) (by first | with_reducible assumption | (rw [bv_length]; with_reducible assumption) | (rw [List.size_toArray, bv_length]; with_reducible assumption) | (simp [cat, zc80, length_zsum, Value.cells, hs6]; done) | (simp [cat, zc80, length_zsum, Value.cells, hs6]; omega) | rfl) (by first | with_reducible assumption | (rw [bv_length]; with_reducible assumption) | (rw [List.size_toArray, bv_length]; with_reducible assumption) | (simp [cat, zc80, length_zsum, Value.cells, hs6]; done) | (simp [cat, zc80, length_zsum, Value.cells, hs6]; omega) | rfl)) (Eq.trans (fill_cat (v := .agg _) (l' := [_]) 1 1 rfl ((List.append_nil _).symm) (by first | with_reducible assumption | (rw [bv_length]; with_reducible assumption) | (rw [List.size_toArray, bv_length]; with_reducible assumption) | (simp [cat, zc80, length_zsum, Value.cells, hs6]; done) | (simp [cat, zc80, length_zsum, Value.cells, hs6]; omega) | rfl) (by first | with_reducible assumption | (rw [bv_length]; with_reducible assumption) | (rw [List.size_toArray, bv_length]; with_reducible assumption) | (simp [cat, zc80, length_zsum, Value.cells, hs6]; done) | (simp [cat, zc80, length_zsum, Value.cells, hs6]; omega) | rfl) (by first | with_reducible assumption | (rw [bv_length]; with_reducible assumption) | (rw [List.size_toArray, bv_length]; with_reducible assumption) | (simp [cat, zc80, length_zsum, Value.cells, hs6]; done) | (simp [cat, zc80, length_zsum, Value.cells, hs6]; omega) | rfl)) rfl))) rfl ?_
  refine p_does (d_storeW S 0 rfl rfl (by first | exact bv_one _ | exact sv_one _ | exact iv_one _ | with_reducible assumption | (refine One.mem ?_; repeat (first | exact One.bv _ | exact One.sv _ | exact One.iv _ | exact One.nil | exact One.cat0 | refine One.cat1 ?_ ?_ | refine One.cons rfl ?_ | refine One.append ?_ ?_))) sz80 (by first | with_reducible assumption | (rw [bv_length]; with_reducible assumption) | (rw [List.size_toArray, bv_length]; with_reducible assumption) | (simp [cat, zc80, length_zsum, Value.cells, hs6]; done) | (simp [cat, zc80, length_zsum, Value.cells, hs6]; omega) | rfl) rfl rfl (by first | with_reducible assumption | (rw [bv_length]; with_reducible assumption) | (rw [List.size_toArray, bv_length]; with_reducible assumption) | (simp [cat, zc80, length_zsum, Value.cells, hs6]; done) | (simp [cat, zc80, length_zsum, Value.cells, hs6]; omega) | rfl)) rfl ?_
  intro _ w S
  refine p_nil (x_then (s_ret ?_))
  exact postC Try.results68 S 0 rfl rfl rfl ag80 sz80 (by first | with_reducible assumption | (rw [bv_length]; with_reducible assumption) | (rw [List.size_toArray, bv_length]; with_reducible assumption) | (simp [cat, zc80, length_zsum, Value.cells, hs6]; done) | (simp [cat, zc80, length_zsum, Value.cells, hs6]; omega) | rfl) (⟨_, _, _, _, _, _, by simp only [rSgn, q4, q6], hs6, rfl, t4.trans t6, S.pk [1] rfl⟩)
theorem tk_get (w0 : World) (A : Option Addr) (c : Nat) (l : List Nat) (R : Rd w0 1 A l.length (bv l)) (bR : Bytes l) (cR : l.length ≤ c) (nR : l.length ≤ 1099511000000) :
    Ret Try.prog 47 [.slice A l.length c] w0 fun v w' => ∃ k1 c1 k2 c2, v = .tuple #[.agg (cat (msgC (rMsg l).m (at_ k1) (rMsg l).b.length c1 (at_ k2) (rMsg l).s.length c2)).toArray, .int .i64 (rMsg l).e] ∧ St w0 w' [] [k1, k2] [Rw 5 1 (rMsg l).b.length c1 (bv (rMsg l).b), Rw 5 1 (rMsg l).s.length c2 (bv (rMsg l).s)] := by
  refine enter Try.func47 rfl Try.ntmps47 (Nat.le_of_ble_eq_true rfl) ?_
  have S := St.init w0
  refine s_seq (s_plain ?_)
  refine p_does (d_allocA S zs84) rfl ?_
  rintro _ w ⟨b2, rfl, S⟩
  refine p_val (e_assign (v := .int _ _) rfl) rfl ?_
  refine p_nil (x_then (s_seq (s_plain ?_)))
  refine p_val (e_move (v := .slice _ _ _) rfl) rfl ?_
  refine p_does (d_call Try.func52 nm52 rfl rfl (eye_look _ _ _ _)) rfl ?_
  rintro _ w ⟨b9, rfl, T⟩
  have S := S.merge T rfl
  refine p_val (e_assign (v := .pointer _) rfl) rfl ?_
  refine p_nil (x_then (s_seq (s_plain ?_)))
  refine p_val (e_move (v := .pointer _) rfl) rfl ?_
  refine p_does (d_call Try.func53 nm53 rfl rfl (eye_upto _ _ _ _ _ _ _ (S.hr [0] rfl) (S.rdOld R rfl) (S.offOld [0] R (by decide) Off.nil rfl) bR cR nR)) rfl ?_
  rintro _ w ⟨a11, e11, l11, A11, c11, q11, rfl, t11, T⟩
  have S := (S.call [0] T rfl).pk [0, 2] rfl
  have R11 := t11.rd _ R
  have bR11 := t11.by_ bR
  have cR11 := t11.cap
  have nR11 := t11.len nR
  refine p_val (e_move (v := .pointer _) rfl) rfl ?_
  refine p_does (d_call Try.func53 nm53 rfl rfl (eye_upto _ _ _ _ _ _ _ (S.hr [0] rfl) (S.rdOld R11 rfl) (S.offOld [0] R11 (by decide) Off.nil rfl) bR11 cR11 nR11)) rfl ?_
  rintro _ w ⟨a13, e13, l13, A13, c13, q13, rfl, t13, T⟩
  have S := (S.call [0] T rfl).pk [0, 2] rfl
  have R13 := t13.rd _ R11
  have bR13 := t13.by_ bR11
  have cR13 := t13.cap
  have nR13 := t13.len nR11
  refine p_val (e_move (v := .pointer _) rfl) rfl ?_
  refine p_does (d_call Try.func53 nm53 rfl rfl (eye_upto _ _ _ _ _ _ _ (S.hr [0] rfl) (S.rdOld R13 rfl) (S.offOld [0] R13 (by decide) Off.nil rfl) bR13 cR13 nR13)) rfl ?_
  rintro _ w ⟨a15, e15, l15, A15, c15, q15, rfl, t15, T⟩
  have S := (S.call [0] T rfl).pk [0, 2] rfl
  have R15 := t15.rd _ R13
  have bR15 := t15.by_ bR13
  have cR15 := t15.cap
  have nR15 := t15.len nR13
  refine p_val (e_buildS bt84 (Eq.trans (fill_cat (v := .int _ _) (l' := [[_]]) 0 1 rfl (rfl) (by first | with_reducible assumption | (rw [bv_length]; with_reducible assumption) | (rw [List.size_toArray, bv_length]; with_reducible assumption) | (simp [cat, length_zsum, msgC, zc84, zc78, Value.cells, mz, Jb.zero, Rcp.zero]; done) | (simp [cat, length_zsum, msgC, zc84, zc78, Value.cells, mz, Jb.zero, Rcp.zero]; omega) | rfl) (by first | with_reducible assumption | (rw [bv_length]; with_reducible assumption) | (rw [List.size_toArray, bv_length]; with_reducible assumption) | (simp [cat, length_zsum, msgC, zc84, zc78, Value.cells, mz, Jb.zero, Rcp.zero]; done) | (simp [cat, length_zsum, msgC, zc84, zc78, Value.cells, mz, Jb.zero, Rcp.zero]; omega) | rfl) (by first | with_reducible assumption | (rw [bv_length]; with_reducible assumption) | (rw [List.size_toArray, bv_length]; with_reducible assumption) | (simp [cat, length_zsum, msgC, zc84, zc78, Value.cells, mz, Jb.zero, Rcp.zero]; done) | (simp [cat, length_zsum, msgC, zc84, zc78, Value.cells, mz, Jb.zero, Rcp.zero]; omega) | rfl)) (Eq.trans (fill_cat (v := .int _ _) (l' := [[_]]) 1 1 rfl (rfl) (by first | with_reducible assumption | (rw [bv_length]; with_reducible assumption) | (rw [List.size_toArray, bv_length]; with_reducible assumption) | (simp [cat, length_zsum, msgC, zc84, zc78, Value.cells, mz, Jb.zero, Rcp.zero]; done) | (simp [cat, length_zsum, msgC, zc84, zc78, Value.cells, mz, Jb.zero, Rcp.zero]; omega) | rfl) (by first | with_reducible assumption | (rw [bv_length]; with_reducible assumption) | (rw [List.size_toArray, bv_length]; with_reducible assumption) | (simp [cat, length_zsum, msgC, zc84, zc78, Value.cells, mz, Jb.zero, Rcp.zero]; done) | (simp [cat, length_zsum, msgC, zc84, zc78, Value.cells, mz, Jb.zero, Rcp.zero]; omega) | rfl) (by first | with_reducible assumption | (rw [bv_length]; with_reducible assumption) | (rw [List.size_toArray, bv_length]; with_reducible assumption) | (simp [cat, length_zsum, msgC, zc84, zc78, Value.cells, mz, Jb.zero, Rcp.zero]; done) | (simp [cat, length_zsum, msgC, zc84, zc78, Value.cells, mz, Jb.zero, Rcp.zero]; omega) | rfl)) (Eq.trans (fill_cat (v := .int _ _) (l' := [[_]]) 2 1 rfl (rfl) (by first | with_reducible assumption | (rw [bv_length]; with_reducible assumption) | (rw [List.size_toArray, bv_length]; with_reducible assumption) | (simp [cat, length_zsum, msgC, zc84, zc78, Value.cells, mz, Jb.zero, Rcp.zero]; done) | (simp [cat, length_zsum, msgC, zc84, zc78, Value.cells, mz, Jb.zero, Rcp.zero]; omega) | rfl) (by first | with_reducible assumption | (rw [bv_length]; with_reducible assumption) | (rw [List.size_toArray, bv_length]; with_reducible assumption) | (simp [cat, length_zsum, msgC, zc84, zc78, Value.cells, mz, Jb.zero, Rcp.zero]; done) | (simp [cat, length_zsum, msgC, zc84, zc78, Value.cells, mz, Jb.zero, Rcp.zero]; omega) | rfl) (by first | with_reducible assumption | (rw [bv_length]; with_reducible assumption) | (rw [List.size_toArray, bv_length]; with_reducible assumption) | (simp [cat, length_zsum, msgC, zc84, zc78, Value.cells, mz, Jb.zero, Rcp.zero]; done) | (simp [cat, length_zsum, msgC, zc84, zc78, Value.cells, mz, Jb.zero, Rcp.zero]; omega) | rfl)) rfl)))) rfl ?_
  refine p_does (d_allocA S zs84) rfl ?_
  rintro _ w ⟨b5, rfl, S⟩
  refine p_does (d_storeW S 0 rfl rfl (by first | exact bv_one _ | exact sv_one _ | exact iv_one _ | with_reducible assumption | (refine One.mem ?_; repeat (first | exact One.bv _ | exact One.sv _ | exact One.iv _ | exact One.nil | exact One.cat0 | refine One.cat1 ?_ ?_ | refine One.cons rfl ?_ | refine One.append ?_ ?_))) sz84 (by first | with_reducible assumption | (rw [bv_length]; with_reducible assumption) | (rw [List.size_toArray, bv_length]; with_reducible assumption) | (simp [cat, length_zsum, msgC, zc84, zc78, Value.cells, mz, Jb.zero, Rcp.zero]; done) | (simp [cat, length_zsum, msgC, zc84, zc78, Value.cells, mz, Jb.zero, Rcp.zero]; omega) | rfl) rfl rfl (by first | with_reducible assumption | (rw [bv_length]; with_reducible assumption) | (rw [List.size_toArray, bv_length]; with_reducible assumption) | (simp [cat, length_zsum, msgC, zc84, zc78, Value.cells, mz, Jb.zero, Rcp.zero]; done) | (simp [cat, length_zsum, msgC, zc84, zc78, Value.cells, mz, Jb.zero, Rcp.zero]; omega) | rfl)) rfl ?_
  intro _ w S
  have S := S.addNil 5 1
  have S := S.addNil 5 1
  refine p_nil (x_then (s_seq (s_plain ?_)))
  refine p_val (e_assign (v := .int _ _) rfl) rfl ?_
  refine p_nil (x_then (s_seq ?_))
  refine s_cutK (ks := [none, none, some b5, some b9, some b2]) (ps := [Rw _ _ _ _ _, Rw _ _ _ _ _, Ex _ _, Ex _ _, Ex _ _]) [(2, .pointer _), (4, .pointer _), (5, .pointer _)] ⟨rfl, rfl, rfl, trivial⟩ S (fun keep ks ps f' w' => ∃ u Kn21 Cn21 Kn15 Cn15 mm bb ss e2 e1 l1 A1 c1, f' = upds u ((6, .int .i64 e2) :: keep) ∧ (rBody (mz a11 a13 a15) e15 l15 = ⟨mm, bb, ss, e2, e1, l1⟩) ∧ (EyeTo A c l A1 c1 l1) ∧ St w0 w' [] [Kn21, Kn15, some b5, some b9, some b2] [Rw 5 1 ((List.length ss)) Cn21 (bv ss), Rw 5 1 ((List.length bb)) Cn15 (bv bb), Ex (cat (msgC mm (at_ Kn15) (List.length bb) Cn15 (at_ Kn21) (List.length ss) Cn21)).toArray 84, eyeE A1 c1 e1 l1, (ps.getD 4 fun _ => True)]) ?_ ?_
  · refine s_seq (s_plain ?_)
    refine p_val (e_field rfl Try.underlying84 rfl sz3 (by decide)) rfl ?_
    refine p_val (e_loadF1 (i := 0) (off := 0) rfl ag3 S (j := 2) rfl rfl rfl (by first | with_reducible assumption | (rw [bv_length]; with_reducible assumption) | (rw [List.size_toArray, bv_length]; with_reducible assumption) | (simp [cat, length_zsum, msgC, zc84, zc78, Value.cells, mz, Jb.zero, Rcp.zero]; done) | (simp [cat, length_zsum, msgC, zc84, zc78, Value.cells, mz, Jb.zero, Rcp.zero]; omega) | rfl)) rfl ?_
    refine p_nil (x_then (s_block (s_seq (s_plain ?_))))
    refine p_val (e_eql rfl rfl) rfl ?_
    refine p_val (e_assign (v := .bool _) rfl) rfl ?_
    refine p_nil (x_then ?_)
    refine s_cond rfl (fun hc19 => ?_) (fun hc19 => ?_)
    · refine s_seq (s_plain ?_)
      refine p_val (e_move (v := .pointer _) rfl) rfl ?_
      refine p_does (d_call Try.func53 nm53 rfl rfl (eye_upto _ _ _ _ _ _ _ (S.hr [3] rfl) (S.rdOld R15 rfl) (S.offOld [3] R15 (by decide) Off.nil rfl) bR15 cR15 nR15)) rfl ?_
      rintro _ w ⟨a22, e22, l22, A22, c22, q22, rfl, t22, T⟩
      have S := (S.call [3] T rfl).pk [1, 2, 3, 0, 5] rfl
      have R22 := t22.rd _ R15
      have bR22 := t22.by_ bR15
      have cR22 := t22.cap
      have nR22 := t22.len nR15
      refine p_val (e_move (v := .pointer _) rfl) rfl ?_
      refine p_does (d_call Try.func53 nm53 rfl rfl (eye_upto _ _ _ _ _ _ _ (S.hr [3] rfl) (S.rdOld R22 rfl) (S.offOld [3] R22 (by decide) Off.nil rfl) bR22 cR22 nR22)) rfl ?_
      rintro _ w ⟨a24, e24, l24, A24, c24, q24, rfl, t24, T⟩
      have S := (S.call [3] T rfl).pk [1, 2, 3, 0, 5] rfl
      have R24 := t24.rd _ R22
      have bR24 := t24.by_ bR22
      have cR24 := t24.cap
      have nR24 := t24.len nR22
      refine p_val (e_move (v := .pointer _) rfl) rfl ?_
      refine p_does (d_call Try.func53 nm53 rfl rfl (eye_upto _ _ _ _ _ _ _ (S.hr [3] rfl) (S.rdOld R24 rfl) (S.offOld [3] R24 (by decide) Off.nil rfl) bR24 cR24 nR24)) rfl ?_
      rintro _ w ⟨a26, e26, l26, A26, c26, q26, rfl, t26, T⟩
      have S := (S.call [3] T rfl).pk [1, 2, 3, 0, 5] rfl
      have R26 := t26.rd _ R24
      have bR26 := t26.by_ bR24
      have cR26 := t26.cap
      have nR26 := t26.len nR24
      refine p_val (e_move (v := .pointer _) rfl) rfl ?_
      refine p_does (d_call Try.func54 nm54 rfl rfl (eye_sum _ _ _ _ _ _ (S.hr [3] rfl) (S.rdOld R26 rfl) (S.offOld [3] R26 (by decide) Off.nil rfl) bR26 cR26 nR26)) rfl ?_
      rintro _ w ⟨s28, e28, l28, A28, c28, q28, hs28, rfl, t28, T⟩
      have S := (S.call [3] T rfl).pk [1, 2, 3, 0, 5] rfl
      have R28 := t28.rd _ R26
      have bR28 := t28.by_ bR26
      have cR28 := t28.cap
      have nR28 := t28.len nR26
      refine p_val (e_move (v := .pointer _) rfl) rfl ?_
      refine p_does (d_call Try.func54 nm54 rfl rfl (eye_sum _ _ _ _ _ _ (S.hr [3] rfl) (S.rdOld R28 rfl) (S.offOld [3] R28 (by decide) Off.nil rfl) bR28 cR28 nR28)) rfl ?_
      rintro _ w ⟨s30, e30, l30, A30, c30, q30, hs30, rfl, t30, T⟩
      have S := (S.call [3] T rfl).pk [1, 2, 3, 0, 5] rfl
      have R30 := t30.rd _ R28
      have bR30 := t30.by_ bR28
      have cR30 := t30.cap
      have nR30 := t30.len nR28
      refine p_val (e_buildA (zc := [bv zsum, bv zsum]) Try.underlying76 sz44 zA2 (Eq.trans (fill_cat (v := .agg _) (l' := [_]) 0 1 rfl (List.append_nil _).symm (by simp [cat, Value.cells, hs28]) (by rfl) (by simp [cat, length_zsum])) (Eq.trans (fill_cat (v := .agg _) (l' := [_]) 1 1 rfl (List.append_nil _).symm (by simp [cat, Value.cells, hs30]) (by simp [cat, Value.cells, hs28]) (by simp [cat, length_zsum])) rfl))) rfl ?_
      refine p_val (e_buildS bt78 (Eq.trans (fill_cat (v := .int _ _) (l' := [[_]]) 0 1 rfl (rfl) (by first | with_reducible assumption | (rw [bv_length]; with_reducible assumption) | (rw [List.size_toArray, bv_length]; with_reducible assumption) | (simp [cat, length_zsum, msgC, zc84, zc78, Value.cells, mz, Jb.zero, Rcp.zero]; done) | (simp [cat, length_zsum, msgC, zc84, zc78, Value.cells, mz, Jb.zero, Rcp.zero]; omega) | rfl) (by first | with_reducible assumption | (rw [bv_length]; with_reducible assumption) | (rw [List.size_toArray, bv_length]; with_reducible assumption) | (simp [cat, length_zsum, msgC, zc84, zc78, Value.cells, mz, Jb.zero, Rcp.zero]; done) | (simp [cat, length_zsum, msgC, zc84, zc78, Value.cells, mz, Jb.zero, Rcp.zero]; omega) | rfl) (by first | with_reducible assumption | (rw [bv_length]; with_reducible assumption) | (rw [List.size_toArray, bv_length]; with_reducible assumption) | (simp [cat, length_zsum, msgC, zc84, zc78, Value.cells, mz, Jb.zero, Rcp.zero]; done) | (simp [cat, length_zsum, msgC, zc84, zc78, Value.cells, mz, Jb.zero, Rcp.zero]; omega) | rfl)) (Eq.trans (fill_cat (v := .int _ _) (l' := [[_]]) 1 1 rfl (rfl) (by first | with_reducible assumption | (rw [bv_length]; with_reducible assumption) | (rw [List.size_toArray, bv_length]; with_reducible assumption) | (simp [cat, length_zsum, msgC, zc84, zc78, Value.cells, mz, Jb.zero, Rcp.zero]; done) | (simp [cat, length_zsum, msgC, zc84, zc78, Value.cells, mz, Jb.zero, Rcp.zero]; omega) | rfl) (by first | with_reducible assumption | (rw [bv_length]; with_reducible assumption) | (rw [List.size_toArray, bv_length]; with_reducible assumption) | (simp [cat, length_zsum, msgC, zc84, zc78, Value.cells, mz, Jb.zero, Rcp.zero]; done) | (simp [cat, length_zsum, msgC, zc84, zc78, Value.cells, mz, Jb.zero, Rcp.zero]; omega) | rfl) (by first | with_reducible assumption | (rw [bv_length]; with_reducible assumption) | (rw [List.size_toArray, bv_length]; with_reducible assumption) | (simp [cat, length_zsum, msgC, zc84, zc78, Value.cells, mz, Jb.zero, Rcp.zero]; done) | (simp [cat, length_zsum, msgC, zc84, zc78, Value.cells, mz, Jb.zero, Rcp.zero]; omega) | rfl)) (Eq.trans (fill_cat (v := .int _ _) (l' := [[_]]) 2 1 rfl (rfl) (by first | with_reducible assumption | (rw [bv_length]; with_reducible assumption) | (rw [List.size_toArray, bv_length]; with_reducible assumption) | (simp [cat, length_zsum, msgC, zc84, zc78, Value.cells, mz, Jb.zero, Rcp.zero]; done) | (simp [cat, length_zsum, msgC, zc84, zc78, Value.cells, mz, Jb.zero, Rcp.zero]; omega) | rfl) (by first | with_reducible assumption | (rw [bv_length]; with_reducible assumption) | (rw [List.size_toArray, bv_length]; with_reducible assumption) | (simp [cat, length_zsum, msgC, zc84, zc78, Value.cells, mz, Jb.zero, Rcp.zero]; done) | (simp [cat, length_zsum, msgC, zc84, zc78, Value.cells, mz, Jb.zero, Rcp.zero]; omega) | rfl) (by first | with_reducible assumption | (rw [bv_length]; with_reducible assumption) | (rw [List.size_toArray, bv_length]; with_reducible assumption) | (simp [cat, length_zsum, msgC, zc84, zc78, Value.cells, mz, Jb.zero, Rcp.zero]; done) | (simp [cat, length_zsum, msgC, zc84, zc78, Value.cells, mz, Jb.zero, Rcp.zero]; omega) | rfl)) (Eq.trans (fill_cat (v := .agg _) (l' := _) 3 2 rfl (rfl) (by first | with_reducible assumption | (rw [bv_length]; with_reducible assumption) | (rw [List.size_toArray, bv_length]; with_reducible assumption) | (simp [cat, length_zsum, msgC, zc84, zc78, Value.cells, mz, Jb.zero, Rcp.zero]; done) | (simp [cat, length_zsum, msgC, zc84, zc78, Value.cells, mz, Jb.zero, Rcp.zero]; omega) | rfl) (by first | with_reducible assumption | (rw [bv_length]; with_reducible assumption) | (rw [List.size_toArray, bv_length]; with_reducible assumption) | (simp [cat, length_zsum, msgC, zc84, zc78, Value.cells, mz, Jb.zero, Rcp.zero]; done) | (simp [cat, length_zsum, msgC, zc84, zc78, Value.cells, mz, Jb.zero, Rcp.zero]; omega) | rfl) (by first | with_reducible assumption | (rw [bv_length]; with_reducible assumption) | (rw [List.size_toArray, bv_length]; with_reducible assumption) | (simp [cat, length_zsum, msgC, zc84, zc78, Value.cells, mz, Jb.zero, Rcp.zero]; done) | (simp [cat, length_zsum, msgC, zc84, zc78, Value.cells, mz, Jb.zero, Rcp.zero]; omega) | rfl)) rfl))))) rfl ?_
      refine p_val (e_field rfl Try.underlying84 rfl sz78 (by decide)) rfl ?_
      refine p_does (d_storeFS (off := 3) S 2 3 5 rfl rfl (by first | exact bv_one _ | exact sv_one _ | exact iv_one _ | with_reducible assumption | (refine One.mem ?_; repeat (first | exact One.bv _ | exact One.sv _ | exact One.iv _ | exact One.nil | exact One.cat0 | refine One.cat1 ?_ ?_ | refine One.cons rfl ?_ | refine One.append ?_ ?_))) sz78 (by first | with_reducible assumption | (rw [bv_length]; with_reducible assumption) | (rw [List.size_toArray, bv_length]; with_reducible assumption) | (simp [cat, length_zsum, msgC, zc84, zc78, Value.cells, mz, Jb.zero, Rcp.zero]; done) | (simp [cat, length_zsum, msgC, zc84, zc78, Value.cells, mz, Jb.zero, Rcp.zero]; omega) | rfl) rfl rfl (by first | with_reducible assumption | (rw [bv_length]; with_reducible assumption) | (rw [List.size_toArray, bv_length]; with_reducible assumption) | (simp [cat, length_zsum, msgC, zc84, zc78, Value.cells, mz, Jb.zero, Rcp.zero]; done) | (simp [cat, length_zsum, msgC, zc84, zc78, Value.cells, mz, Jb.zero, Rcp.zero]; omega) | rfl) (by first | with_reducible assumption | (rw [bv_length]; with_reducible assumption) | (rw [List.size_toArray, bv_length]; with_reducible assumption) | (simp [cat, length_zsum, msgC, zc84, zc78, Value.cells, mz, Jb.zero, Rcp.zero]; done) | (simp [cat, length_zsum, msgC, zc84, zc78, Value.cells, mz, Jb.zero, Rcp.zero]; omega) | rfl)) rfl ?_
      intro _ w S
      refine p_nil (x_then (s_plain ?_))
      refine p_val (e_move (v := .pointer _) rfl) rfl ?_
      refine p_does (d_call Try.func68 nm68 rfl rfl (tk_sign _ _ _ _ _ _ (S.hr [3] rfl) (S.rdOld R30 rfl) (S.offOld [3] R30 (by decide) Off.nil rfl) bR30 cR30 nR30)) rfl ?_
      rintro _ w ⟨a35, s35, e35, l35, A35, c35, q35, hs35, rfl, t35, T⟩
      have S := (S.call [3] T rfl).pk [1, 2, 3, 0, 5] rfl
      have R35 := t35.rd _ R30
      have bR35 := t35.by_ bR30
      have cR35 := t35.cap
      have nR35 := t35.len nR30
      refine p_val (e_field rfl Try.underlying84 rfl sz80 (by decide)) rfl ?_
      refine p_does (d_storeFS (off := 70) S 2 8 2 rfl rfl (by first | exact bv_one _ | exact sv_one _ | exact iv_one _ | with_reducible assumption | (refine One.mem ?_; repeat (first | exact One.bv _ | exact One.sv _ | exact One.iv _ | exact One.nil | exact One.cat0 | refine One.cat1 ?_ ?_ | refine One.cons rfl ?_ | refine One.append ?_ ?_))) sz80 (by first | with_reducible assumption | (rw [bv_length]; with_reducible assumption) | (rw [List.size_toArray, bv_length]; with_reducible assumption) | (simp [cat, length_zsum, msgC, zc84, zc78, Value.cells, mz, Jb.zero, Rcp.zero]; done) | (simp [cat, length_zsum, msgC, zc84, zc78, Value.cells, mz, Jb.zero, Rcp.zero]; omega) | rfl) rfl rfl (by first | with_reducible assumption | (rw [bv_length]; with_reducible assumption) | (rw [List.size_toArray, bv_length]; with_reducible assumption) | (simp [cat, length_zsum, msgC, zc84, zc78, Value.cells, mz, Jb.zero, Rcp.zero]; done) | (simp [cat, length_zsum, msgC, zc84, zc78, Value.cells, mz, Jb.zero, Rcp.zero]; omega) | rfl) (by first | with_reducible assumption | (rw [bv_length]; with_reducible assumption) | (rw [List.size_toArray, bv_length]; with_reducible assumption) | (simp [cat, length_zsum, msgC, zc84, zc78, Value.cells, mz, Jb.zero, Rcp.zero]; done) | (simp [cat, length_zsum, msgC, zc84, zc78, Value.cells, mz, Jb.zero, Rcp.zero]; omega) | rfl)) rfl ?_
      intro _ w S
      refine p_nil (x_in ?_)
      exact x_then ⟨_, rfl, _, _,  _,  _,  _,  ⟨a11,  a13,  a15,  a22,  a24,  a26,  s28,  s30,  a35,  s35,  0,  zsum,  Jb.zero,  Rcp.zero⟩,  [],  [],  _,  _,  _,  _,  _, upds_eq ⟨rfl, rfl, rfl, rfl, trivial⟩, by unfold rBody; rw [if_pos (show (mz a11 a13 a15).k = 1 from hc19)]; simp only [q22, q24, q26, q28, q30, q35, mz], t11.trans (t13.trans (t15.trans (t22.trans (t24.trans (t26.trans (t28.trans (t30.trans t35))))))), S⟩
    · refine s_seq (s_plain ?_)
      refine p_val (e_eql rfl rfl) rfl ?_
      refine p_val (e_assign (v := .bool _) rfl) rfl ?_
      refine p_nil (x_then ?_)
      refine s_cond rfl (fun hc37 => ?_) (fun hc37 => ?_)
      · refine s_plain ?_
        refine p_val (e_move (v := .pointer _) rfl) rfl ?_
        refine p_does (d_call Try.func53 nm53 rfl rfl (eye_upto _ _ _ _ _ _ _ (S.hr [3] rfl) (S.rdOld R15 rfl) (S.offOld [3] R15 (by decide) Off.nil rfl) bR15 cR15 nR15)) rfl ?_
        rintro _ w ⟨a40, e40, l40, A40, c40, q40, rfl, t40, T⟩
        have S := (S.call [3] T rfl).pk [1, 2, 3, 0, 5] rfl
        have R40 := t40.rd _ R15
        have bR40 := t40.by_ bR15
        have cR40 := t40.cap
        have nR40 := t40.len nR15
        refine p_val (e_move (v := .pointer _) rfl) rfl ?_
        refine p_does (d_call Try.func54 nm54 rfl rfl (eye_sum _ _ _ _ _ _ (S.hr [3] rfl) (S.rdOld R40 rfl) (S.offOld [3] R40 (by decide) Off.nil rfl) bR40 cR40 nR40)) rfl ?_
        rintro _ w ⟨s42, e42, l42, A42, c42, q42, hs42, rfl, t42, T⟩
        have S := (S.call [3] T rfl).pk [1, 2, 3, 0, 5] rfl
        have R42 := t42.rd _ R40
        have bR42 := t42.by_ bR40
        have cR42 := t42.cap
        have nR42 := t42.len nR40
        refine p_val (e_move (v := .pointer _) rfl) rfl ?_
        refine p_does (d_call Try.func68 nm68 rfl rfl (tk_sign _ _ _ _ _ _ (S.hr [3] rfl) (S.rdOld R42 rfl) (S.offOld [3] R42 (by decide) Off.nil rfl) bR42 cR42 nR42)) rfl ?_
        rintro _ w ⟨a44, s44, e44, l44, A44, c44, q44, hs44, rfl, t44, T⟩
        have S := (S.call [3] T rfl).pk [1, 2, 3, 0, 5] rfl
        have R44 := t44.rd _ R42
        have bR44 := t44.by_ bR42
        have cR44 := t44.cap
        have nR44 := t44.len nR42
        refine p_val (e_field rfl Try.underlying84 rfl sz3 (by decide)) rfl ?_
        refine p_does (d_storeF1 (v := .int _ _) (off := 103) S 2 10 rfl rfl rfl sz3 rfl rfl rfl (by first | with_reducible assumption | (rw [bv_length]; with_reducible assumption) | (rw [List.size_toArray, bv_length]; with_reducible assumption) | (simp [cat, length_zsum, msgC, zc84, zc78, Value.cells, mz, Jb.zero, Rcp.zero]; done) | (simp [cat, length_zsum, msgC, zc84, zc78, Value.cells, mz, Jb.zero, Rcp.zero]; omega) | rfl)) rfl ?_
        intro _ w S
        refine p_val (e_field rfl Try.underlying84 rfl sz44 (by decide)) rfl ?_
        refine p_does (d_storeFA (off := 104) S 2 11 rfl rfl (by first | exact bv_one _ | exact sv_one _ | exact iv_one _ | with_reducible assumption | (refine One.mem ?_; repeat (first | exact One.bv _ | exact One.sv _ | exact One.iv _ | exact One.nil | exact One.cat0 | refine One.cat1 ?_ ?_ | refine One.cons rfl ?_ | refine One.append ?_ ?_))) sz44 (by first | with_reducible assumption | (rw [bv_length]; with_reducible assumption) | (rw [List.size_toArray, bv_length]; with_reducible assumption) | (simp [cat, length_zsum, msgC, zc84, zc78, Value.cells, mz, Jb.zero, Rcp.zero]; done) | (simp [cat, length_zsum, msgC, zc84, zc78, Value.cells, mz, Jb.zero, Rcp.zero]; omega) | rfl) rfl rfl rfl (by first | with_reducible assumption | (rw [bv_length]; with_reducible assumption) | (rw [List.size_toArray, bv_length]; with_reducible assumption) | (simp [cat, length_zsum, msgC, zc84, zc78, Value.cells, mz, Jb.zero, Rcp.zero]; done) | (simp [cat, length_zsum, msgC, zc84, zc78, Value.cells, mz, Jb.zero, Rcp.zero]; omega) | rfl) (by first | with_reducible assumption | (rw [bv_length]; with_reducible assumption) | (rw [List.size_toArray, bv_length]; with_reducible assumption) | (simp [cat, length_zsum, msgC, zc84, zc78, Value.cells, mz, Jb.zero, Rcp.zero]; done) | (simp [cat, length_zsum, msgC, zc84, zc78, Value.cells, mz, Jb.zero, Rcp.zero]; omega) | rfl)) rfl ?_
        intro _ w S
        refine p_val (e_field rfl Try.underlying84 rfl sz80 (by decide)) rfl ?_
        refine p_does (d_storeFS (off := 70) S 2 8 2 rfl rfl (by first | exact bv_one _ | exact sv_one _ | exact iv_one _ | with_reducible assumption | (refine One.mem ?_; repeat (first | exact One.bv _ | exact One.sv _ | exact One.iv _ | exact One.nil | exact One.cat0 | refine One.cat1 ?_ ?_ | refine One.cons rfl ?_ | refine One.append ?_ ?_))) sz80 (by first | with_reducible assumption | (rw [bv_length]; with_reducible assumption) | (rw [List.size_toArray, bv_length]; with_reducible assumption) | (simp [cat, length_zsum, msgC, zc84, zc78, Value.cells, mz, Jb.zero, Rcp.zero]; done) | (simp [cat, length_zsum, msgC, zc84, zc78, Value.cells, mz, Jb.zero, Rcp.zero]; omega) | rfl) rfl rfl (by first | with_reducible assumption | (rw [bv_length]; with_reducible assumption) | (rw [List.size_toArray, bv_length]; with_reducible assumption) | (simp [cat, length_zsum, msgC, zc84, zc78, Value.cells, mz, Jb.zero, Rcp.zero]; done) | (simp [cat, length_zsum, msgC, zc84, zc78, Value.cells, mz, Jb.zero, Rcp.zero]; omega) | rfl) (by first | with_reducible assumption | (rw [bv_length]; with_reducible assumption) | (rw [List.size_toArray, bv_length]; with_reducible assumption) | (simp [cat, length_zsum, msgC, zc84, zc78, Value.cells, mz, Jb.zero, Rcp.zero]; done) | (simp [cat, length_zsum, msgC, zc84, zc78, Value.cells, mz, Jb.zero, Rcp.zero]; omega) | rfl)) rfl ?_
        intro _ w S
        refine p_nil (x_in ?_)
        exact x_then ⟨_, rfl, _, _,  _,  _,  _,  ⟨a11,  a13,  a15,  0,  0,  0,  zsum,  zsum,  a44,  s44,  a40,  s42,  Jb.zero,  Rcp.zero⟩,  [],  [],  _,  _,  _,  _,  _, upds_eq ⟨rfl, rfl, rfl, rfl, trivial⟩, by unfold rBody; rw [if_neg (show ¬ (mz a11 a13 a15).k = 1 from hc19), if_pos (show (mz a11 a13 a15).k = 2 from hc37)]; simp only [q40, q42, q44, mz], t11.trans (t13.trans (t15.trans (t40.trans (t42.trans t44)))), S⟩
      · refine s_seq (s_plain ?_)
        refine p_val (e_eql rfl rfl) rfl ?_
        refine p_val (e_assign (v := .bool _) rfl) rfl ?_
        refine p_nil (x_then ?_)
        refine s_cond rfl (fun hc48 => ?_) (fun hc48 => ?_)
        · refine s_plain ?_
          refine p_val (e_move (v := .pointer _) rfl) rfl ?_
          refine p_does (d_call Try.func53 nm53 rfl rfl (eye_upto _ _ _ _ _ _ _ (S.hr [3] rfl) (S.rdOld R15 rfl) (S.offOld [3] R15 (by decide) Off.nil rfl) bR15 cR15 nR15)) rfl ?_
          rintro _ w ⟨a51, e51, l51, A51, c51, q51, rfl, t51, T⟩
          have S := (S.call [3] T rfl).pk [1, 2, 3, 0, 5] rfl
          have R51 := t51.rd _ R15
          have bR51 := t51.by_ bR15
          have cR51 := t51.cap
          have nR51 := t51.len nR15
          refine p_val (e_move (v := .pointer _) rfl) rfl ?_
          refine p_does (d_call Try.func54 nm54 rfl rfl (eye_sum _ _ _ _ _ _ (S.hr [3] rfl) (S.rdOld R51 rfl) (S.offOld [3] R51 (by decide) Off.nil rfl) bR51 cR51 nR51)) rfl ?_
          rintro _ w ⟨s53, e53, l53, A53, c53, q53, hs53, rfl, t53, T⟩
          have S := (S.call [3] T rfl).pk [1, 2, 3, 0, 5] rfl
          have R53 := t53.rd _ R51
          have bR53 := t53.by_ bR51
          have cR53 := t53.cap
          have nR53 := t53.len nR51
          refine p_val (e_field rfl Try.underlying84 rfl sz3 (by decide)) rfl ?_
          refine p_does (d_storeF1 (v := .int _ _) (off := 103) S 2 10 rfl rfl rfl sz3 rfl rfl rfl (by first | with_reducible assumption | (rw [bv_length]; with_reducible assumption) | (rw [List.size_toArray, bv_length]; with_reducible assumption) | (simp [cat, length_zsum, msgC, zc84, zc78, Value.cells, mz, Jb.zero, Rcp.zero]; done) | (simp [cat, length_zsum, msgC, zc84, zc78, Value.cells, mz, Jb.zero, Rcp.zero]; omega) | rfl)) rfl ?_
          intro _ w S
          refine p_val (e_field rfl Try.underlying84 rfl sz44 (by decide)) rfl ?_
          refine p_does (d_storeFA (off := 104) S 2 11 rfl rfl (by first | exact bv_one _ | exact sv_one _ | exact iv_one _ | with_reducible assumption | (refine One.mem ?_; repeat (first | exact One.bv _ | exact One.sv _ | exact One.iv _ | exact One.nil | exact One.cat0 | refine One.cat1 ?_ ?_ | refine One.cons rfl ?_ | refine One.append ?_ ?_))) sz44 (by first | with_reducible assumption | (rw [bv_length]; with_reducible assumption) | (rw [List.size_toArray, bv_length]; with_reducible assumption) | (simp [cat, length_zsum, msgC, zc84, zc78, Value.cells, mz, Jb.zero, Rcp.zero]; done) | (simp [cat, length_zsum, msgC, zc84, zc78, Value.cells, mz, Jb.zero, Rcp.zero]; omega) | rfl) rfl rfl rfl (by first | with_reducible assumption | (rw [bv_length]; with_reducible assumption) | (rw [List.size_toArray, bv_length]; with_reducible assumption) | (simp [cat, length_zsum, msgC, zc84, zc78, Value.cells, mz, Jb.zero, Rcp.zero]; done) | (simp [cat, length_zsum, msgC, zc84, zc78, Value.cells, mz, Jb.zero, Rcp.zero]; omega) | rfl) (by first | with_reducible assumption | (rw [bv_length]; with_reducible assumption) | (rw [List.size_toArray, bv_length]; with_reducible assumption) | (simp [cat, length_zsum, msgC, zc84, zc78, Value.cells, mz, Jb.zero, Rcp.zero]; done) | (simp [cat, length_zsum, msgC, zc84, zc78, Value.cells, mz, Jb.zero, Rcp.zero]; omega) | rfl)) rfl ?_
          intro _ w S
          refine p_nil (x_in ?_)
          exact x_then ⟨_, rfl, _, _,  _,  _,  _,  ⟨a11,  a13,  a15,  0,  0,  0,  zsum,  zsum,  0,  zsum,  a51,  s53,  Jb.zero,  Rcp.zero⟩,  [],  [],  _,  _,  _,  _,  _, upds_eq ⟨rfl, rfl, rfl, rfl, trivial⟩, by unfold rBody; rw [if_neg (show ¬ (mz a11 a13 a15).k = 1 from hc19), if_neg (show ¬ (mz a11 a13 a15).k = 2 from hc37), if_pos (show (mz a11 a13 a15).k = 3 from hc48)]; simp only [q51, q53, mz], t11.trans (t13.trans (t15.trans (t51.trans t53))), S⟩
        · refine s_seq (s_plain ?_)
          refine p_val (e_eql rfl rfl) rfl ?_
          refine p_val (e_assign (v := .bool _) rfl) rfl ?_
          refine p_nil (x_then ?_)
          refine s_cond rfl (fun hc56 => ?_) (fun hc56 => ?_)
          · refine s_plain ?_
            refine p_val (e_move (v := .pointer _) rfl) rfl ?_
            refine p_does (d_call Try.func59 nm59 rfl rfl (eye_text _ _ _ _ _ _ _ (S.hr [3] rfl) (S.rdOld R15 rfl) (S.offOld [3] R15 (by decide) Off.nil rfl) bR15 cR15 nR15)) rfl ?_
            rintro _ w ⟨k60, cc60, s60, e60, l60, A60, c60, q60, rfl, t60, T⟩
            have S := (S.call [3] T rfl).pk [0, 2, 3, 4, 1, 6] rfl
            have R60 := t60.rd _ R15
            have bR60 := t60.by_ bR15
            have cR60 := t60.cap
            have nR60 := t60.len nR15
            have bs60 : Bytes s60 := rText_bytes bR15 q60
            have ns60 := rText_len (by decide) q60
            have hjo := jb_ok s60
            have hjo' : (rJob s60).1.h.length = 32 := hjo
            refine p_does (d_call Try.func69 nm69 rfl rfl (jb_get _ _ _ _ (S.rdRw 0 rfl rfl) (bs60) (S.capRw 0 rfl rfl) (by first | omega | (simp only [List.length_append, List.length_cons, List.length_nil, bv_length, length_zsum, msgC, zc84, zc78, Value.cells, mz, Jb.zero, Rcp.zero]; omega) | (simp [cat, length_zsum, msgC, zc84, zc78, Value.cells, mz, Jb.zero, Rcp.zero]; omega)))) rfl ?_
            rintro _ w ⟨k61, c61, rfl, T⟩
            have S := S.merge T rfl
            refine p_val (e_move (v := .tuple _) rfl) rfl ?_
            refine p_val (e_extract rfl rfl) rfl ?_
            refine p_val (e_extract rfl rfl) rfl ?_
            refine p_val (e_field rfl Try.underlying84 rfl sz82 (by decide)) rfl ?_
            refine p_does (d_storeFS (off := 136) S 4 12 4 rfl rfl (by first | exact bv_one _ | exact sv_one _ | exact iv_one _ | with_reducible assumption | (refine One.mem ?_; repeat (first | exact One.bv _ | exact One.sv _ | exact One.iv _ | exact One.nil | exact One.cat0 | refine One.cat1 ?_ ?_ | refine One.cons rfl ?_ | refine One.append ?_ ?_))) sz82 (by first | with_reducible assumption | (rw [bv_length]; with_reducible assumption) | (rw [List.size_toArray, bv_length]; with_reducible assumption) | (simp [cat, length_zsum, msgC, zc84, zc78, Value.cells, mz, Jb.zero, Rcp.zero, jbC, hjo']; done) | (simp [cat, length_zsum, msgC, zc84, zc78, Value.cells, mz, Jb.zero, Rcp.zero, jbC, hjo']; omega) | rfl) rfl rfl (by first | with_reducible assumption | (rw [bv_length]; with_reducible assumption) | (rw [List.size_toArray, bv_length]; with_reducible assumption) | (simp [cat, length_zsum, msgC, zc84, zc78, Value.cells, mz, Jb.zero, Rcp.zero, jbC, hjo']; done) | (simp [cat, length_zsum, msgC, zc84, zc78, Value.cells, mz, Jb.zero, Rcp.zero, jbC, hjo']; omega) | rfl) (by first | with_reducible assumption | (rw [bv_length]; with_reducible assumption) | (rw [List.size_toArray, bv_length]; with_reducible assumption) | (simp [cat, length_zsum, msgC, zc84, zc78, Value.cells, mz, Jb.zero, Rcp.zero, jbC, hjo']; done) | (simp [cat, length_zsum, msgC, zc84, zc78, Value.cells, mz, Jb.zero, Rcp.zero, jbC, hjo']; omega) | rfl)) rfl ?_
            intro _ w S
            refine p_val (e_assign (v := .int _ _) rfl) rfl ?_
            refine p_nil (x_in ?_)
            exact x_then ⟨_, rfl, _, _,  _,  _,  _,  ⟨a11,  a13,  a15,  0,  0,  0,  zsum,  zsum,  0,  zsum,  0,  zsum,  (rJob s60).1,  Rcp.zero⟩,  (rJob s60).2.1,  [],  _,  _,  _,  _,  _, upds_eq ⟨rfl, rfl, rfl, rfl, trivial⟩, by unfold rBody; rw [if_neg (show ¬ (mz a11 a13 a15).k = 1 from hc19), if_neg (show ¬ (mz a11 a13 a15).k = 2 from hc37), if_neg (show ¬ (mz a11 a13 a15).k = 3 from hc48), if_pos (show (mz a11 a13 a15).k = 4 from hc56)]; simp only [q60, mz], t11.trans (t13.trans (t15.trans t60)), S.pk [2, 0, 4, 5, 6] rfl⟩
          · refine s_seq (s_plain ?_)
            refine p_val (e_eql rfl rfl) rfl ?_
            refine p_val (e_assign (v := .bool _) rfl) rfl ?_
            refine p_nil (x_then ?_)
            refine s_cond rfl (fun hc65 => ?_) (fun hc65 => ?_)
            · refine s_plain ?_
              refine p_val (e_move (v := .pointer _) rfl) rfl ?_
              refine p_does (d_call Try.func59 nm59 rfl rfl (eye_text _ _ _ _ _ _ _ (S.hr [3] rfl) (S.rdOld R15 rfl) (S.offOld [3] R15 (by decide) Off.nil rfl) bR15 cR15 nR15)) rfl ?_
              rintro _ w ⟨k69, cc69, s69, e69, l69, A69, c69, q69, rfl, t69, T⟩
              have S := (S.call [3] T rfl).pk [0, 2, 3, 4, 1, 6] rfl
              have R69 := t69.rd _ R15
              have bR69 := t69.by_ bR15
              have cR69 := t69.cap
              have nR69 := t69.len nR15
              have bs69 : Bytes s69 := rText_bytes bR15 q69
              have ns69 := rText_len (by decide) q69
              have hso := sgd_ok s69
              refine p_does (d_call Try.func27 nm27 rfl rfl (sg_get _ _ _ _ (S.rdRw 0 rfl rfl) (bs69) (S.capRw 0 rfl rfl) (by first | omega | (simp only [List.length_append, List.length_cons, List.length_nil, bv_length, length_zsum, msgC, zc84, zc78, Value.cells, mz, Jb.zero, Rcp.zero]; omega) | (simp [cat, length_zsum, msgC, zc84, zc78, Value.cells, mz, Jb.zero, Rcp.zero]; omega)))) rfl ?_
              rintro _ w ⟨k70, c70, rfl, T⟩
              have S := S.merge T rfl
              refine p_val (e_move (v := .tuple _) rfl) rfl ?_
              refine p_val (e_extract rfl rfl) rfl ?_
              refine p_val (e_extract rfl rfl) rfl ?_
              refine p_val (e_field rfl Try.underlying84 rfl sz54 (by decide)) rfl ?_
              refine p_does (d_storeFS (off := 171) S 4 16 6 rfl rfl (by first | exact bv_one _ | exact sv_one _ | exact iv_one _ | with_reducible assumption | (refine One.mem ?_; repeat (first | exact One.bv _ | exact One.sv _ | exact One.iv _ | exact One.nil | exact One.cat0 | refine One.cat1 ?_ ?_ | refine One.cons rfl ?_ | refine One.append ?_ ?_))) sz54 (by first | with_reducible assumption | (rw [bv_length]; with_reducible assumption) | (rw [List.size_toArray, bv_length]; with_reducible assumption) | (simp [cat, length_zsum, msgC, zc84, zc78, Value.cells, mz, Jb.zero, Rcp.zero, sgdC, rcpC, hso.1, hso.2]; done) | (simp [cat, length_zsum, msgC, zc84, zc78, Value.cells, mz, Jb.zero, Rcp.zero, sgdC, rcpC, hso.1, hso.2]; omega) | rfl) rfl rfl (by first | with_reducible assumption | (rw [bv_length]; with_reducible assumption) | (rw [List.size_toArray, bv_length]; with_reducible assumption) | (simp [cat, length_zsum, msgC, zc84, zc78, Value.cells, mz, Jb.zero, Rcp.zero, sgdC, rcpC, hso.1, hso.2]; done) | (simp [cat, length_zsum, msgC, zc84, zc78, Value.cells, mz, Jb.zero, Rcp.zero, sgdC, rcpC, hso.1, hso.2]; omega) | rfl) (by first | with_reducible assumption | (rw [bv_length]; with_reducible assumption) | (rw [List.size_toArray, bv_length]; with_reducible assumption) | (simp [cat, length_zsum, msgC, zc84, zc78, Value.cells, mz, Jb.zero, Rcp.zero, sgdC, rcpC, hso.1, hso.2]; done) | (simp [cat, length_zsum, msgC, zc84, zc78, Value.cells, mz, Jb.zero, Rcp.zero, sgdC, rcpC, hso.1, hso.2]; omega) | rfl)) rfl ?_
              intro _ w S
              refine p_val (e_assign (v := .int _ _) rfl) rfl ?_
              refine p_nil (x_in ?_)
              exact x_then ⟨_, rfl, _, _,  _,  _,  _,  ⟨a11,  a13,  a15,  0,  0,  0,  zsum,  zsum,  0,  zsum,  0,  zsum,  Jb.zero,  (rSgd s69).1⟩,  [],  (rSgd s69).2.1,  _,  _,  _,  _,  _, upds_eq ⟨rfl, rfl, rfl, rfl, trivial⟩, by unfold rBody; rw [if_neg (show ¬ (mz a11 a13 a15).k = 1 from hc19), if_neg (show ¬ (mz a11 a13 a15).k = 2 from hc37), if_neg (show ¬ (mz a11 a13 a15).k = 3 from hc48), if_neg (show ¬ (mz a11 a13 a15).k = 4 from hc56), if_pos (show (mz a11 a13 a15).k = 5 from hc65)]; simp only [q69, mz], t11.trans (t13.trans (t15.trans t69)), S.pk [0, 3, 4, 5, 6] rfl⟩
            · refine s_skip (x_in ?_)
              exact x_then ⟨_, rfl, _, _,  _,  _,  _,  mz a11 a13 a15,  [],  [],  _,  _,  _,  _,  _, upds_eq ⟨rfl, rfl, rfl, rfl, trivial⟩, by unfold rBody; rw [if_neg (show ¬ (mz a11 a13 a15).k = 1 from hc19), if_neg (show ¬ (mz a11 a13 a15).k = 2 from hc37), if_neg (show ¬ (mz a11 a13 a15).k = 3 from hc48), if_neg (show ¬ (mz a11 a13 a15).k = 4 from hc56), if_neg (show ¬ (mz a11 a13 a15).k = 5 from hc65)], t11.trans (t13.trans t15), S⟩
  · rintro f w ⟨u, Kn21, Cn21, Kn15, Cn15, mm, bb, ss, e2, e1, l1, A1, c1, rfl, hq, t1, S⟩
    have R1 := t1.rd _ R
    have bR1 := t1.by_ bR
    have cR1 := t1.cap
    have nR1 := t1.len nR
    have hok : mm.ok := by have h := body_ok a11 a13 a15 e15 l15; rw [hq] at h; exact h
    refine x_then (s_seq (s_seq (s_plain ?_)))
    refine p_val (e_move (v := .pointer _) rfl) rfl ?_
    refine p_does (d_call Try.func55 nm55 rfl rfl (eye_done _ _ _ _ _ _ (S.hr [3] rfl))) rfl ?_
    rintro _ w ⟨rfl, T⟩
    have S := (S.call [3] T rfl).pk [1, 2, 3, 0, 5] rfl
    refine p_val (e_assign (v := .int _ _) rfl) rfl ?_
    refine p_nil (x_then (s_seq (s_plain ?_)))
    refine p_val (e_move (v := .int _ _) rfl) rfl ?_
    refine p_val (e_neq rfl rfl) rfl ?_
    refine p_nil (x_then ?_)
    refine s_cond rfl (fun hc77 => ?_) (fun hc77 => ?_)
    · have e0 : rMsg l = ⟨mz 0 0 0, [], [], rDone e1 l1⟩ := by simp only [rMsg, q11, q13, q15, hq]; rw [if_pos hc77]
      refine s_seq (s_plain ?_)
      refine p_val (e_buildS0 bt84) rfl ?_
      refine p_val (e_move (v := .int _ _) rfl) rfl ?_
      refine p_does (d_storeW S 4 rfl rfl (by first | exact bv_one _ | exact sv_one _ | exact iv_one _ | with_reducible assumption | (refine One.mem ?_; repeat (first | exact One.bv _ | exact One.sv _ | exact One.iv _ | exact One.nil | exact One.cat0 | refine One.cat1 ?_ ?_ | refine One.cons rfl ?_ | refine One.append ?_ ?_))) sz84 (by first | with_reducible assumption | (rw [bv_length]; with_reducible assumption) | (rw [List.size_toArray, bv_length]; with_reducible assumption) | (simp [cat, length_zsum, msgC, zc84, zc78, Value.cells, mz, Jb.zero, Rcp.zero]; done) | (simp [cat, length_zsum, msgC, zc84, zc78, Value.cells, mz, Jb.zero, Rcp.zero]; omega) | rfl) rfl rfl (by first | with_reducible assumption | (rw [bv_length]; with_reducible assumption) | (rw [List.size_toArray, bv_length]; with_reducible assumption) | (simp [cat, length_zsum, msgC, zc84, zc78, Value.cells, mz, Jb.zero, Rcp.zero]; done) | (simp [cat, length_zsum, msgC, zc84, zc78, Value.cells, mz, Jb.zero, Rcp.zero]; omega) | rfl)) rfl ?_
      intro _ w S
      refine p_val (e_assign (v := .int _ _) rfl) rfl ?_
      refine p_nil (x_then (s_ret (x_then_ret ?_)))
      exact postC1 (v := .int _ _) Try.results47 S 4 rfl rfl rfl rfl ag84 sz84 (by first | with_reducible assumption | (rw [bv_length]; with_reducible assumption) | (rw [List.size_toArray, bv_length]; with_reducible assumption) | (simp [cat, length_zsum, msgC, zc84, zc78, Value.cells, mz, Jb.zero, Rcp.zero]; done) | (simp [cat, length_zsum, msgC, zc84, zc78, Value.cells, mz, Jb.zero, Rcp.zero]; omega) | rfl) (by rw [e0]; exact ⟨none, 0, none, 0, rfl, (S.none_.addNil 5 1).addNil 5 1⟩)
    · refine s_skip (x_then (s_seq (s_seq (s_plain ?_))))
      refine p_val (e_move (v := .int _ _) rfl) rfl ?_
      refine p_val (e_neq rfl rfl) rfl ?_
      refine p_nil (x_then ?_)
      refine s_cond rfl (fun hc81 => ?_) (fun hc81 => ?_)
      · have e0 : rMsg l = ⟨mz 0 0 0, [], [], e2⟩ := by simp only [rMsg, q11, q13, q15, hq]; rw [if_neg hc77, if_pos hc81]
        refine s_seq (s_plain ?_)
        refine p_val (e_buildS0 bt84) rfl ?_
        refine p_val (e_move (v := .int _ _) rfl) rfl ?_
        refine p_does (d_storeW S 4 rfl rfl (by first | exact bv_one _ | exact sv_one _ | exact iv_one _ | with_reducible assumption | (refine One.mem ?_; repeat (first | exact One.bv _ | exact One.sv _ | exact One.iv _ | exact One.nil | exact One.cat0 | refine One.cat1 ?_ ?_ | refine One.cons rfl ?_ | refine One.append ?_ ?_))) sz84 (by first | with_reducible assumption | (rw [bv_length]; with_reducible assumption) | (rw [List.size_toArray, bv_length]; with_reducible assumption) | (simp [cat, length_zsum, msgC, zc84, zc78, Value.cells, mz, Jb.zero, Rcp.zero]; done) | (simp [cat, length_zsum, msgC, zc84, zc78, Value.cells, mz, Jb.zero, Rcp.zero]; omega) | rfl) rfl rfl (by first | with_reducible assumption | (rw [bv_length]; with_reducible assumption) | (rw [List.size_toArray, bv_length]; with_reducible assumption) | (simp [cat, length_zsum, msgC, zc84, zc78, Value.cells, mz, Jb.zero, Rcp.zero]; done) | (simp [cat, length_zsum, msgC, zc84, zc78, Value.cells, mz, Jb.zero, Rcp.zero]; omega) | rfl)) rfl ?_
        intro _ w S
        refine p_val (e_assign (v := .int _ _) rfl) rfl ?_
        refine p_nil (x_then (s_ret (x_then_ret ?_)))
        exact postC1 (v := .int _ _) Try.results47 S 4 rfl rfl rfl rfl ag84 sz84 (by first | with_reducible assumption | (rw [bv_length]; with_reducible assumption) | (rw [List.size_toArray, bv_length]; with_reducible assumption) | (simp [cat, length_zsum, msgC, zc84, zc78, Value.cells, mz, Jb.zero, Rcp.zero]; done) | (simp [cat, length_zsum, msgC, zc84, zc78, Value.cells, mz, Jb.zero, Rcp.zero]; omega) | rfl) (by rw [e0]; exact ⟨none, 0, none, 0, rfl, (S.none_.addNil 5 1).addNil 5 1⟩)
      · refine s_skip (x_then (s_seq (s_seq (s_plain ?_))))
        refine p_val (e_loadW 2 rfl ag84 sz84 S rfl rfl (by first | with_reducible assumption | (rw [bv_length]; with_reducible assumption) | (rw [List.size_toArray, bv_length]; with_reducible assumption) | (simp [cat, length_zsum, msgC, zc84, zc78, Value.cells, mz, Jb.zero, Rcp.zero, hok.h0, hok.h1, hok.go, hok.sec, hok.j, hok.rh, hok.rb]; done) | (simp [cat, length_zsum, msgC, zc84, zc78, Value.cells, mz, Jb.zero, Rcp.zero, hok.h0, hok.h1, hok.go, hok.sec, hok.j, hok.rh, hok.rb]; omega) | rfl)) rfl ?_
        refine p_does (d_call Try.func45 nm45 rfl rfl (tk_right _ mm _ _ _ _ _ _ hok)) rfl ?_
        rintro _ w ⟨rfl, hB⟩
        have S := S.below hB
        refine p_val (e_not rfl) rfl ?_
        refine p_nil (x_then ?_)
        refine s_condb rfl (fun hc86 => ?_) (fun hc86 => ?_)
        · have hno : ¬ mm.right := by simpa using hc86
          have e0 : rMsg l = ⟨mz 0 0 0, [], [], 4⟩ := by simp only [rMsg, q11, q13, q15, hq]; rw [if_neg hc77, if_neg hc81, if_pos hno]
          refine s_seq (s_plain ?_)
          refine p_val (e_buildS0 bt84) rfl ?_
          refine p_does (d_storeW S 4 rfl rfl (by first | exact bv_one _ | exact sv_one _ | exact iv_one _ | with_reducible assumption | (refine One.mem ?_; repeat (first | exact One.bv _ | exact One.sv _ | exact One.iv _ | exact One.nil | exact One.cat0 | refine One.cat1 ?_ ?_ | refine One.cons rfl ?_ | refine One.append ?_ ?_))) sz84 (by first | with_reducible assumption | (rw [bv_length]; with_reducible assumption) | (rw [List.size_toArray, bv_length]; with_reducible assumption) | (simp [cat, length_zsum, msgC, zc84, zc78, Value.cells, mz, Jb.zero, Rcp.zero]; done) | (simp [cat, length_zsum, msgC, zc84, zc78, Value.cells, mz, Jb.zero, Rcp.zero]; omega) | rfl) rfl rfl (by first | with_reducible assumption | (rw [bv_length]; with_reducible assumption) | (rw [List.size_toArray, bv_length]; with_reducible assumption) | (simp [cat, length_zsum, msgC, zc84, zc78, Value.cells, mz, Jb.zero, Rcp.zero]; done) | (simp [cat, length_zsum, msgC, zc84, zc78, Value.cells, mz, Jb.zero, Rcp.zero]; omega) | rfl)) rfl ?_
          intro _ w S
          refine p_val (e_assign (v := .int _ _) rfl) rfl ?_
          refine p_nil (x_then (s_ret (x_then_ret ?_)))
          exact postC1 (v := .int _ _) Try.results47 S 4 rfl rfl rfl rfl ag84 sz84 (by first | with_reducible assumption | (rw [bv_length]; with_reducible assumption) | (rw [List.size_toArray, bv_length]; with_reducible assumption) | (simp [cat, length_zsum, msgC, zc84, zc78, Value.cells, mz, Jb.zero, Rcp.zero]; done) | (simp [cat, length_zsum, msgC, zc84, zc78, Value.cells, mz, Jb.zero, Rcp.zero]; omega) | rfl) (by rw [e0]; exact ⟨none, 0, none, 0, rfl, (S.none_.addNil 5 1).addNil 5 1⟩)
        · have hyes : mm.right := by simpa using hc86
          have e0 : rMsg l = ⟨mm, bb, ss, 0⟩ := by simp only [rMsg, q11, q13, q15, hq]; rw [if_neg hc77, if_neg hc81, if_neg (fun h => h hyes)]
          refine s_skip (x_then (s_seq (s_plain ?_)))
          refine p_val (e_loadW 2 rfl ag84 sz84 S rfl rfl (by first | with_reducible assumption | (rw [bv_length]; with_reducible assumption) | (rw [List.size_toArray, bv_length]; with_reducible assumption) | (simp [cat, length_zsum, msgC, zc84, zc78, Value.cells, mz, Jb.zero, Rcp.zero, hok.h0, hok.h1, hok.go, hok.sec, hok.j, hok.rh, hok.rb]; done) | (simp [cat, length_zsum, msgC, zc84, zc78, Value.cells, mz, Jb.zero, Rcp.zero, hok.h0, hok.h1, hok.go, hok.sec, hok.j, hok.rh, hok.rb]; omega) | rfl)) rfl ?_
          refine p_does (d_storeW S 4 rfl rfl (by first | exact bv_one _ | exact sv_one _ | exact iv_one _ | with_reducible assumption | (refine One.mem ?_; repeat (first | exact One.bv _ | exact One.sv _ | exact One.iv _ | exact One.nil | exact One.cat0 | refine One.cat1 ?_ ?_ | refine One.cons rfl ?_ | refine One.append ?_ ?_))) sz84 (by first | with_reducible assumption | (rw [bv_length]; with_reducible assumption) | (rw [List.size_toArray, bv_length]; with_reducible assumption) | (simp [cat, length_zsum, msgC, zc84, zc78, Value.cells, mz, Jb.zero, Rcp.zero, hok.h0, hok.h1, hok.go, hok.sec, hok.j, hok.rh, hok.rb]; done) | (simp [cat, length_zsum, msgC, zc84, zc78, Value.cells, mz, Jb.zero, Rcp.zero, hok.h0, hok.h1, hok.go, hok.sec, hok.j, hok.rh, hok.rb]; omega) | rfl) rfl rfl (by first | with_reducible assumption | (rw [bv_length]; with_reducible assumption) | (rw [List.size_toArray, bv_length]; with_reducible assumption) | (simp [cat, length_zsum, msgC, zc84, zc78, Value.cells, mz, Jb.zero, Rcp.zero, hok.h0, hok.h1, hok.go, hok.sec, hok.j, hok.rh, hok.rb]; done) | (simp [cat, length_zsum, msgC, zc84, zc78, Value.cells, mz, Jb.zero, Rcp.zero, hok.h0, hok.h1, hok.go, hok.sec, hok.j, hok.rh, hok.rb]; omega) | rfl)) rfl ?_
          intro _ w S
          refine p_val (e_assign (v := .int _ _) rfl) rfl ?_
          refine p_nil (x_then (s_ret ?_))
          exact postC1 (v := .int _ _) Try.results47 S 4 rfl rfl rfl rfl ag84 sz84 (by first | with_reducible assumption | (rw [bv_length]; with_reducible assumption) | (rw [List.size_toArray, bv_length]; with_reducible assumption) | (simp [cat, length_zsum, msgC, zc84, zc78, Value.cells, mz, Jb.zero, Rcp.zero, hok.h0, hok.h1, hok.go, hok.sec, hok.j, hok.rh, hok.rb]; done) | (simp [cat, length_zsum, msgC, zc84, zc78, Value.cells, mz, Jb.zero, Rcp.zero, hok.h0, hok.h1, hok.go, hok.sec, hok.j, hok.rh, hok.rb]; omega) | rfl) (by rw [e0]; exact ⟨_, _, _, _, rfl, S.pk [1, 0] rfl⟩)
end Go.Proofs.Ytcgcjklpilbndaa

/- A row of bytes that a constant string is turned into: the run-time's mark on it. It proves no statement by itself. -/
set_option linter.unusedSimpArgs false
set_option linter.unusedVariables false
namespace Go.Proofs.Ytcgcjklpilbndaa
open Go Go.RowKit
namespace E
section
variable {P : Program} {w0 w : World} {ex : List Nat} {ks : List (Option Nat)} {ps pp : List (Option Obj → Prop)}
theorem freeze_heap (w : World) (b k : Nat) (cs : Array Value) (t : TypeId) (h : w.heap[b]? = some (.cells cs t (0, 0))) : (w.freeze ⟨b, k, none⟩ 1).heap[b]? = some (.cells cs t (k, k + 1)) := by
  have hlt : b < w.heap.size := (Array.getElem?_eq_some_iff.1 h).1
  unfold World.freeze
  rw [if_neg (by decide)]
  show (w.heap.modify b _)[b]? = _
  rw [Array.getElem?_modify]
  simp [h]
theorem freeze_other (w : World) (b k c : Nat) (h : c ≠ b) : (w.freeze ⟨b, k, none⟩ 1).heap[c]? = w.heap[c]? := by
  unfold World.freeze
  rw [if_neg (by decide)]
  show (w.heap.modify b _)[c]? = _
  rw [Array.getElem?_modify, if_neg (fun e => h e.symm)]
theorem freeze_size (w : World) (b k : Nat) : (w.freeze ⟨b, k, none⟩ 1).heap.size = w.heap.size := by
  unfold World.freeze
  rw [if_neg (by decide)]
  exact Array.size_modify
theorem freeze_rest (w : World) (b k : Nat) : (w.freeze ⟨b, k, none⟩ 1).os = w.os ∧ (w.freeze ⟨b, k, none⟩ 1).tape = w.tape ∧ (w.freeze ⟨b, k, none⟩ 1).output = w.output := by
  unfold World.freeze
  rw [if_neg (by decide)]
  exact ⟨rfl, rfl, rfl⟩
theorem St.freeze (S : St w0 w ex ks ps) (i m : Nat) {b : Nat} {cs : Array Value} {t : TypeId} (p' : Option Obj → Prop) (hk : ks[i]? = some (some b)) (hb : w.heap[b]? = some (.cells cs t (0, 0))) (hp : p' (some (.cells cs t (m, m + 1)))) :
    St w0 (w.freeze ⟨b, m, none⟩ 1) ex ks (ps.set i p') := by
  have hlt := S.lt b (List.mem_of_getElem? hk)
  obtain ⟨r1, r2, r3⟩ := freeze_rest w b m
  refine ⟨by rw [r1]; exact S.os, by rw [r2]; exact S.tape, by rw [r3]; exact S.output, by rw [freeze_size]; exact S.size, fun k hk' hx => ?_, fun j k p h h' => ?_, fun c h => by rw [freeze_size]; exact S.lt c h, S.fresh, S.nodup⟩
  · have : k ≠ b := by
      rintro rfl
      rcases S.fresh k (List.mem_of_getElem? hk) with h | h
      · omega
      · exact hx h
    rw [freeze_other w b m k this]
    exact S.old k hk' hx
  · by_cases hij : j = i
    · subst hij
      rw [hk] at h
      cases h
      have hl : j < ps.length := by
        have := (List.getElem?_eq_some_iff.1 h').1
        simpa using this
      rw [List.getElem?_set_self hl] at h'
      cases h'
      show p' ((w.freeze ⟨b, m, none⟩ 1).heap[b]?)
      rw [freeze_heap w b m cs t hb]; exact hp
    · rw [List.getElem?_set_ne (Ne.symm hij)] at h'
      have := S.own j k p h h'
      cases k with
      | none => exact this
      | some c =>
        have hc : c ≠ b := by
          rintro rfl
          exact hij (S.nodup j i c h hk)
        show p ((w.freeze ⟨b, m, none⟩ 1).heap[c]?)
        rw [freeze_other w b m c hc]; exact this
variable {ρ : Operand → Value} {d : Option Nat} {t ty : TypeId} {x : Operand} {ps' : String} {af : Array Edge} {g : Option (Nat × Bool)}
theorem d_mark {e : TypeId} {k : Option Nat} {n c cap : Nat} {xs : List Value} (S : St w0 w ex ks pp) (i : Nat) (hk : ks[i]? = some k) (hp : pp[i]? = some (Rw e 1 n cap xs)) (hn : 0 < n) (hx : ρ x = .slice (at_ k) n c) (ht : P.underlying t = some (.slice e)) (he : P.underlying e = some (.int .u8)) :
    Does P ρ { dst := d, op := .convert t t x, type := ty, pos := ps', after := af, guard := g } w fun v w' => v = .slice (at_ k) n c ∧ St w0 w' ex ks (pp.set i (Fz n xs)) := by
  obtain ⟨hxl, h⟩ := S.own i _ _ hk hp
  rcases h with ⟨_, h0, _⟩ | ⟨cur, hc, hnc, hcm, hcs, htk⟩
  · omega
  · cases k with
    | none => cases hc
    | some b =>
      have hb : w.heap[b]? = some (.cells cur e (0, 0)) := hc
      have hsh : w.shape? b = some (e, cur.size) := by unfold World.shape?; rw [hb]
      refine .inl ⟨_, w.freeze ⟨b, cur.size, none⟩ 1, ?_, rfl, S.freeze i cur.size (Fz n xs) hk hb ⟨by omega, _, _, _, rfl, by omega, by simpa using htk⟩⟩
      show ((do pure (.value (← convert t t (ρ x)))) : Sem Next).run P w = _
      rw [hx]
      simp [convert, run_underlying ht, run_underlying he, markStringish, hsh]
end
end E
end Go.Proofs.Ytcgcjklpilbndaa

/- Three results and more are read. It proves no statement by itself. -/
set_option linter.unusedSimpArgs false
set_option linter.unusedVariables false
namespace Go.Proofs.Ytcgcjklpilbndaa.E
open Go Go.RowKit
section
variable {P : Program} {fn : Func} {R : Value → World → Prop} {n : Nat} {f : Nat → Value} {w : World}
theorem post3 {t1 t2 t3 : Tmp} {v1 v2 v3 : Value} (h : fn.results = #[.tmp t1, .tmp t2, .tmp t3]) (h1 : ev n f (.tmp t1) = v1) (h2 : ev n f (.tmp t2) = v2) (h3 : ev n f (.tmp t3) = v3) (hR : R (.tuple #[v1, v2, v3]) w) : Post P fn R .ret (F n f) w :=
  bodyPost_ret (v := .tuple #[v1, v2, v3]) (by rw [show (results fn (F n f).tmps).run P w = .ok (.tuple #[(F n f).tmps.getD t1 undef, (F n f).tmps.getD t2 undef, (F n f).tmps.getD t3 undef]) w from by simp [results, h]]; simp only [F_getD, ← h1, ← h2, ← h3]; rfl) rfl ⟨_, rfl, hR⟩
theorem post4 {t1 t2 t3 t4 : Tmp} {v1 v2 v3 v4 : Value} (h : fn.results = #[.tmp t1, .tmp t2, .tmp t3, .tmp t4]) (h1 : ev n f (.tmp t1) = v1) (h2 : ev n f (.tmp t2) = v2) (h3 : ev n f (.tmp t3) = v3) (h4 : ev n f (.tmp t4) = v4) (hR : R (.tuple #[v1, v2, v3, v4]) w) : Post P fn R .ret (F n f) w :=
  bodyPost_ret (v := .tuple #[v1, v2, v3, v4]) (by rw [show (results fn (F n f).tmps).run P w = .ok (.tuple #[(F n f).tmps.getD t1 undef, (F n f).tmps.getD t2 undef, (F n f).tmps.getD t3 undef, (F n f).tmps.getD t4 undef]) w from by simp [results, h]]; simp only [F_getD, ← h1, ← h2, ← h3, ← h4]; rfl) rfl ⟨_, rfl, hR⟩
theorem post5 {t1 t2 t3 t4 t5 : Tmp} {v1 v2 v3 v4 v5 : Value} (h : fn.results = #[.tmp t1, .tmp t2, .tmp t3, .tmp t4, .tmp t5]) (h1 : ev n f (.tmp t1) = v1) (h2 : ev n f (.tmp t2) = v2) (h3 : ev n f (.tmp t3) = v3) (h4 : ev n f (.tmp t4) = v4) (h5 : ev n f (.tmp t5) = v5) (hR : R (.tuple #[v1, v2, v3, v4, v5]) w) : Post P fn R .ret (F n f) w :=
  bodyPost_ret (v := .tuple #[v1, v2, v3, v4, v5]) (by rw [show (results fn (F n f).tmps).run P w = .ok (.tuple #[(F n f).tmps.getD t1 undef, (F n f).tmps.getD t2 undef, (F n f).tmps.getD t3 undef, (F n f).tmps.getD t4 undef, (F n f).tmps.getD t5 undef]) w from by simp [results, h]]; simp only [F_getD, ← h1, ← h2, ← h3, ← h4, ← h5]; rfl) rfl ⟨_, rfl, hR⟩
theorem post6 {t1 t2 t3 t4 t5 t6 : Tmp} {v1 v2 v3 v4 v5 v6 : Value} (h : fn.results = #[.tmp t1, .tmp t2, .tmp t3, .tmp t4, .tmp t5, .tmp t6]) (h1 : ev n f (.tmp t1) = v1) (h2 : ev n f (.tmp t2) = v2) (h3 : ev n f (.tmp t3) = v3) (h4 : ev n f (.tmp t4) = v4) (h5 : ev n f (.tmp t5) = v5) (h6 : ev n f (.tmp t6) = v6) (hR : R (.tuple #[v1, v2, v3, v4, v5, v6]) w) : Post P fn R .ret (F n f) w :=
  bodyPost_ret (v := .tuple #[v1, v2, v3, v4, v5, v6]) (by rw [show (results fn (F n f).tmps).run P w = .ok (.tuple #[(F n f).tmps.getD t1 undef, (F n f).tmps.getD t2 undef, (F n f).tmps.getD t3 undef, (F n f).tmps.getD t4 undef, (F n f).tmps.getD t5 undef, (F n f).tmps.getD t6 undef]) w from by simp [results, h]]; simp only [F_getD, ← h1, ← h2, ← h3, ← h4, ← h5, ← h6]; rfl) rfl ⟨_, rfl, hR⟩
theorem e_pickB {ρ : Operand → Value} {d : Option Tmp} {ty : TypeId} {ps : String} {af : Array Edge} {g : Option (Nat × Bool)} {c a b : Operand} {t p q : Bool} (hc : ρ c = .bool t) (ha : ρ a = .bool p) (hb : ρ b = .bool q) : (execOp ρ { dst := d, op := .pick c a b, type := ty, pos := ps, after := af, guard := g }).run P w = .ok (.value (.bool (if t then p else q))) w := by
  cases t <;> simp [execOp, hc, ha, hb, asBool]
end
end Go.Proofs.Ytcgcjklpilbndaa.E
