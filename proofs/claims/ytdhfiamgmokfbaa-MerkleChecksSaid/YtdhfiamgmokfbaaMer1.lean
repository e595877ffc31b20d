/- Lists of sums under one sum, walked. It proves no statement by itself. -/
import Derived.Test.YtdhfiamgmokfbaaMerP
import Derived.Test.YtdhfiamgmokfbaaCon2
import Derived.Test.YtdhfiamgmokfbaaSha6
import Derived.Test.YtdhfiamgmokfbaaLam2
set_option linter.unusedSimpArgs false
set_option linter.unusedVariables false
set_option maxRecDepth 100000
set_option maxHeartbeats 1000000
namespace Go.Proofs.Ytdhfiamgmokfbaa
open Go Go.RowKit E
attribute [local irreducible] wpList seqH treeH
theorem take_getD {l : List (List Nat)} {g : Nat} (h : g < l.length) : l.take (g + 1) = l.take g ++ [l.getD g []] := by
  rw [List.take_add_one, List.getElem?_eq_getElem h, List.getD_eq_getElem?_getD, List.getElem?_eq_getElem h]; rfl
theorem upL_step {l : List (List Nat)} {g : Nat} (h : g % 2 = 0) (hg : g + 1 < l.length) : upL (l.take (g + 2)) = upL (l.take g) ++ [mpair (l.getD g []) (l.getD (g + 1) [])] := by
  have e : l.take (g + 2) = l.take g ++ [l.getD g [], l.getD (g + 1) []] := by
    rw [take_getD hg, take_getD (show g < l.length by omega), List.append_assoc]; rfl
  rw [e, upL_append _ _ (by rw [List.length_take]; omega)]
  rfl
theorem upL_last {l : List (List Nat)} {g : Nat} (h : g % 2 = 0) (hg : g + 1 = l.length) : upL l = upL (l.take g) ++ [l.getD g []] := by
  have e : l = l.take g ++ [l.getD g []] := by
    rw [← take_getD (by omega), List.take_of_length_le (by omega)]
  have e2 := congrArg upL e
  rw [upL_append _ _ (by rw [List.length_take]; omega)] at e2
  exact e2
theorem sv_put {M : List (List Nat)} (h : All32 M) {i : Nat} (hi : i < M.length) (x : List Nat) : (sv M).take (i * 32) ++ bv x ++ (sv M).drop (i * 32 + 32) = sv (M.set i x) := by
  have h1 := flat_take (c := bv) h.len i
  have h2 := flat_drop (c := bv) h.len (i + 1)
  have e : i * 32 + 32 = (i + 1) * 32 := by omega
  unfold sv
  rw [e, h1, h2, List.set_eq_take_append_cons_drop, if_pos hi, List.flatMap_append, List.flatMap_cons, List.append_assoc]
def leavesL (l : List (List Nat)) (g : Nat) : List (List Nat) := (l.take g).map mleaf ++ List.replicate (l.length - g) zsum
theorem leavesL_length {l : List (List Nat)} {g : Nat} (h : g ≤ l.length) : (leavesL l g).length = l.length := by simp [leavesL]; omega
theorem leavesL_all {l : List (List Nat)} {g : Nat} : All32 (leavesL l g) := by
  intro x hx
  rcases List.mem_append.1 hx with h | h
  · obtain ⟨y, _, rfl⟩ := List.mem_map.1 h; exact length_mleaf y
  · rw [(List.mem_replicate.1 h).2]; exact length_zsum
theorem leavesL_step {l : List (List Nat)} {g : Nat} (h : g < l.length) : (leavesL l g).set g (mleaf (l.getD g [])) = leavesL l (g + 1) := by
  unfold leavesL
  have h1 : ((l.take g).map mleaf).length = g := by simp; omega
  rw [List.set_append_right _ _ (by omega), h1, Nat.sub_self, show l.length - g = (l.length - (g + 1)) + 1 by omega, List.replicate_succ, List.set_cons_zero, take_getD h, List.map_append, List.append_assoc]
  rfl
theorem leavesL_all_done (l : List (List Nat)) : leavesL l l.length = l.map mleaf := by simp [leavesL]
theorem map_leaf_all (l : List (List Nat)) : All32 (l.map mleaf) := by
  intro x hx
  obtain ⟨y, _, rfl⟩ := List.mem_map.1 hx
  exact length_mleaf y
def mroot (l : List (List Nat)) : List Nat := if l.length = 0 then join 3 [] else rootI (l.map mleaf)
theorem length_rootI : ∀ (m : Nat) (l : List (List Nat)), l.length = m → 0 < l.length → All32 l → (rootI l).length = 32 := by
  intro m
  induction m using Nat.strongRecOn with
  | _ m ih =>
    intro l hm h0 ha
    by_cases h1 : l.length ≤ 1
    · match l, h0, h1 with
      | [x], _, _ => rw [rootI_one]; exact ha x (by simp)
    · rw [rootI_up h1]
      exact ih _ (by rw [upL_length]; omega) (upL l) rfl (by rw [upL_length]; omega) (upL_all ha)
theorem length_mroot (l : List (List Nat)) : (mroot l).length = 32 := by
  unfold mroot
  split
  · exact length_join _ _
  · exact length_rootI _ _ rfl (by rw [List.length_map]; omega) (map_leaf_all l)
theorem mk_leaf (w0 : World) (s : List Nat) (hs : s.length = 32) :
    Ret Try.prog 44 [.agg (bv s).toArray] w0 fun v w' => v = .agg (bv (mleaf s)).toArray ∧ Below w0.heap.size w0 w' := by
  refine enter Try.func44 rfl Try.ntmps44 (Nat.le_of_ble_eq_true rfl) ?_
  have S := St.init w0
  refine s_seq (s_plain ?_)
  refine p_does (d_boxA S rfl) rfl ?_
  rintro _ w ⟨b1, rfl, S⟩
  refine p_does (d_allocA S zvS) rfl ?_
  rintro _ w ⟨b2, rfl, S⟩
  refine p_nil (x_then (s_seq (s_plain ?_)))
  refine p_val (e_sl_arr rfl Try.underlying29 sz5) rfl ?_
  refine p_does (d_lit1 S Try.underlying90 sz33 zv33 rfl (vs := [.slice _ _ _]) rfl rfl rfl (by decide)) rfl ?_
  rintro _ w ⟨b4, rfl, S⟩
  refine p_does (d_call Try.func19 nm19 rfl rfl (join_calls _ _ _ _ [_] (Parts.one (S.rdRw 0 rfl rfl) (S.rdBytes 2 rfl rfl (by first | with_reducible assumption | (rw [bv_length]; with_reducible assumption) | (simp [cat, hs, length_join]; done) | (simp [cat, hs, length_join]; omega) | rfl))) (by first | (simp [joinB, len4, cat, hs, length_join]; done) | (simp [joinB, len4, cat, hs, length_join]; omega)) (by simp))) rfl ?_
  rintro _ w ⟨rfl, hB⟩
  have S := S.below hB
  refine p_does (d_storeW S 1 rfl rfl (by first | exact bv_one _ | exact sv_one _ | exact iv_one _ | with_reducible assumption | (refine One.mem ?_; repeat (first | exact One.bv _ | exact One.sv _ | exact One.iv _ | exact One.nil | exact One.cat0 | refine One.cat1 ?_ ?_ | refine One.cons rfl ?_ | refine One.append ?_ ?_))) sz29 (by first | with_reducible assumption | (rw [bv_length]; with_reducible assumption) | (simp [cat, hs, length_join]; done) | (simp [cat, hs, length_join]; omega) | rfl) rfl rfl (by first | with_reducible assumption | (rw [bv_length]; with_reducible assumption) | (simp [cat, hs, length_join]; done) | (simp [cat, hs, length_join]; omega) | rfl)) rfl ?_
  intro _ w S
  refine p_nil (x_then (s_ret ?_))
  exact postC Try.results44 S 1 rfl rfl rfl ag29 sz29 (by first | with_reducible assumption | (rw [bv_length]; with_reducible assumption) | (simp [cat, hs, length_join]; done) | (simp [cat, hs, length_join]; omega) | rfl) (⟨rfl, S.to_below⟩)
theorem l3leaf (w0 : World) (s : List Nat) (hs : s.length = 32) :
    Ret Try.prog 45 [.agg (bv s).toArray] w0 fun v w' => v = .agg (bv (mleaf s)).toArray ∧ Below w0.heap.size w0 w' := by
  refine enter Try.func45 rfl Try.ntmps45 (Nat.le_of_ble_eq_true rfl) ?_
  have S := St.init w0
  refine s_seq (s_plain ?_)
  refine p_does (d_boxA S rfl) rfl ?_
  rintro _ w ⟨b1, rfl, S⟩
  refine p_does (d_allocA S zvS) rfl ?_
  rintro _ w ⟨b2, rfl, S⟩
  refine p_nil (x_then (s_seq (s_plain ?_)))
  refine p_val (e_sl_arr rfl Try.underlying29 sz5) rfl ?_
  refine p_does (d_lit1 S Try.underlying90 sz33 zv33 rfl (vs := [.slice _ _ _]) rfl rfl rfl (by decide)) rfl ?_
  rintro _ w ⟨b4, rfl, S⟩
  refine p_does (d_call Try.func19 nm19 rfl rfl (join_calls _ _ _ _ [_] (Parts.one (S.rdRw 0 rfl rfl) (S.rdBytes 2 rfl rfl (by first | with_reducible assumption | (rw [bv_length]; with_reducible assumption) | (simp [cat, hs, length_join]; done) | (simp [cat, hs, length_join]; omega) | rfl))) (by first | (simp [joinB, len4, cat, hs, length_join]; done) | (simp [joinB, len4, cat, hs, length_join]; omega)) (by simp))) rfl ?_
  rintro _ w ⟨rfl, hB⟩
  have S := S.below hB
  refine p_does (d_storeW S 1 rfl rfl (by first | exact bv_one _ | exact sv_one _ | exact iv_one _ | with_reducible assumption | (refine One.mem ?_; repeat (first | exact One.bv _ | exact One.sv _ | exact One.iv _ | exact One.nil | exact One.cat0 | refine One.cat1 ?_ ?_ | refine One.cons rfl ?_ | refine One.append ?_ ?_))) sz29 (by first | with_reducible assumption | (rw [bv_length]; with_reducible assumption) | (simp [cat, hs, length_join]; done) | (simp [cat, hs, length_join]; omega) | rfl) rfl rfl (by first | with_reducible assumption | (rw [bv_length]; with_reducible assumption) | (simp [cat, hs, length_join]; done) | (simp [cat, hs, length_join]; omega) | rfl)) rfl ?_
  intro _ w S
  refine p_nil (x_then (s_ret ?_))
  exact postC Try.results45 S 1 rfl rfl rfl ag29 sz29 (by first | with_reducible assumption | (rw [bv_length]; with_reducible assumption) | (simp [cat, hs, length_join]; done) | (simp [cat, hs, length_join]; omega) | rfl) (⟨rfl, S.to_below⟩)
theorem mk_leaves (w0 : World) (A : Option Addr) (c : Nat) (L : List (List Nat)) (R : Rd w0 32 A L.length (sv L)) (hL : All32 L) (hn : L.length ≤ 1000000) :
    Ret Try.prog 86 [.slice A L.length c] w0 fun v w' => ∃ k c, v = .slice (at_ k) (L.map mleaf).length c ∧ St w0 w' [] [k] [Rw 29 32 (L.map mleaf).length c (sv (L.map mleaf))] := by
  refine enter Try.func86 rfl Try.ntmps86 (Nat.le_of_ble_eq_true rfl) ?_
  have S := St.init w0
  refine s_seq (s_plain ?_)
  refine p_val (e_assign (v := .slice _ _ _) rfl) rfl ?_
  refine p_nil (x_then (s_seq (s_plain ?_)))
  refine p_val (e_move (v := .slice _ _ _) rfl) rfl ?_
  refine p_val (e_len rfl Try.underlying24) rfl ?_
  refine p_does (d_makeN (c := bv) (z0 := zsum) S Try.underlying24 el29 zvS rfl L.length rfl rfl (by omega) (by unfold maxLen; omega)) rfl ?_
  rintro _ w ⟨b8, rfl, S⟩
  refine p_val (e_assign (v := .slice _ _ _) rfl) rfl ?_
  refine p_nil (x_then (s_seq (s_seq (s_plain ?_))))
  refine p_val (e_move (v := .slice _ _ _) rfl) rfl ?_
  refine p_val (e_len rfl Try.underlying24) rfl ?_
  refine p_val (e_move (v := .int _ _) rfl) rfl ?_
  refine p_nil (x_then (s_block ?_))
  refine s_loopK (α := Nat) (ks := [some b8]) (ps := [Rw _ _ _ _ _]) [(3, .slice _ _ _), (9, .slice _ _ _), (10, .int _ _)] ⟨rfl, rfl, rfl, trivial⟩ S (fun keep ks ps g f' w' => ∃ u xs, f' = upds u ((11, .int .i64 (g : Int)) :: keep) ∧ (g ≤ L.length) ∧ (xs = sv (leavesL L g)) ∧ St w0 w' [] [some b8] [Rw 29 32 L.length L.length xs]) (fun g => L.length - g) (0) (⟨_, _, upds_eq ⟨rfl, rfl, rfl, rfl, trivial⟩, by first | omega | rfl | with_reducible assumption | (simp; done) | (simp; omega), by simp [leavesL, sv], S⟩) ?_
  rintro g f w ⟨u, xs, rfl, hg, rfl, S⟩
  refine s_seq (s_plain ?_)
  refine p_val (e_lss rfl rfl) rfl ?_
  refine p_nil (x_then (s_seq ?_))
  refine s_cond rfl (fun hc12 => ?_) (fun hc12 => ?_)
  · refine s_skip (x_then (s_seq (s_block (s_seq (s_plain ?_)))))
    refine p_val (e_move (v := .int _ _) rfl) rfl ?_
    refine p_val (e_ixR (S.rdOld R rfl) (by decide) rfl rfl Try.underlying24 sz29 (by omega)) rfl ?_
    have hgl : (L.getD (g : Int).toNat []).length = 32 := hL.getD (by omega)
    refine p_val (e_loadRA rfl ag29 sz29 (by decide) (Rd.sumA (S.rdOld R rfl) (by with_reducible assumption) (by omega))) rfl ?_
    refine p_does (d_allocA S zvS) rfl ?_
    rintro _ w ⟨b5, rfl, S⟩
    refine p_val (e_assign (v := .int _ _) rfl) rfl ?_
    refine p_does (d_storeW S 0 rfl rfl (by first | exact bv_one _ | exact sv_one _ | exact iv_one _ | with_reducible assumption | (refine One.mem ?_; repeat (first | exact One.bv _ | exact One.sv _ | exact One.iv _ | exact One.nil | exact One.cat0 | refine One.cat1 ?_ ?_ | refine One.cons rfl ?_ | refine One.append ?_ ?_))) sz29 (by first | with_reducible assumption | (rw [bv_length]; with_reducible assumption) | (simp [cat, length_mleaf, hgl]; done) | (simp [cat, length_mleaf, hgl]; omega) | rfl) rfl rfl (by first | with_reducible assumption | (rw [bv_length]; with_reducible assumption) | (simp [cat, length_mleaf, hgl]; done) | (simp [cat, length_mleaf, hgl]; omega) | rfl)) rfl ?_
    intro _ w S
    refine p_nil (x_then (s_plain ?_))
    refine p_val (e_move (v := .slice _ _ _) rfl) rfl ?_
    refine p_val (e_move (v := .int _ _) rfl) rfl ?_
    refine p_val (e_loadW 0 rfl ag29 sz29 S rfl rfl (by first | with_reducible assumption | (rw [bv_length]; with_reducible assumption) | (simp [cat, length_mleaf, hgl]; done) | (simp [cat, length_mleaf, hgl]; omega) | rfl)) rfl ?_
    refine p_does (d_call Try.func44 nm44 rfl rfl (mk_leaf _ _ (by first | with_reducible assumption | (rw [bv_length]; with_reducible assumption) | (simp [cat, length_mleaf, hgl]; done) | (simp [cat, length_mleaf, hgl]; omega) | rfl))) rfl ?_
    rintro _ w ⟨rfl, hB⟩
    have S := S.below hB
    refine p_val (e_ixR (S.rdRw 1 rfl rfl) (by decide) rfl rfl Try.underlying24 sz29 (by omega)) rfl ?_
    refine p_does (d_storeRwN S 1 rfl rfl rfl rfl (bv_one _) sz29 (by simp [length_mleaf]) (by omega) (by decide)) rfl ?_
    intro _ w S
    refine p_nil (x_in (x_then (s_plain ?_)))
    refine p_val (e_add64 rfl rfl (by omega)) rfl ?_
    refine p_val (e_move (v := .int _ _) rfl) rfl ?_
    refine p_nil ?_
    refine x_round (g + 1) _ rfl ⟨_, _, upds_eq ⟨rfl, rfl, rfl, rfl, trivial⟩, by first | omega | rfl | with_reducible assumption | (simp; done) | (simp; omega), by rw [Int.toNat_natCast, sv_put leavesL_all (by rw [leavesL_length hg]; omega), leavesL_step (by omega)], S.pk [1] rfl⟩ (by omega)
  · refine s_exit (x_then_exit (x_then_exit (x_in_same (x_then (s_seq (s_plain ?_))))))
    refine p_val (e_move (v := .slice _ _ _) rfl) rfl ?_
    refine p_val (e_assign (v := .slice _ _ _) rfl) rfl ?_
    refine p_nil (x_then (s_ret ?_))
    exact post1 (v := .slice _ _ _) Try.results86 rfl (by obtain rfl : g = L.length := (by omega); rw [leavesL_all_done] at S; exact ⟨some b8, L.length, by rw [List.length_map], by rw [List.length_map]; exact S.pk [0] rfl⟩)
theorem mk_up (w0 : World) (A : Option Addr) (c : Nat) (L : List (List Nat)) (R : Rd w0 32 A L.length (sv L)) (hL : All32 L) (hn : L.length ≤ 1000000) :
    Ret Try.prog 87 [.slice A L.length c] w0 fun v w' => ∃ k c, v = .slice (at_ k) (upL L).length c ∧ St w0 w' [] [k] [Rw 29 32 (upL L).length c (sv (upL L))] := by
  refine enter Try.func87 rfl Try.ntmps87 (Nat.le_of_ble_eq_true rfl) ?_
  have S := St.init w0
  refine s_seq (s_plain ?_)
  refine p_val (e_assign (v := .slice _ _ _) rfl) rfl ?_
  refine p_nil (x_then (s_seq (s_plain ?_)))
  refine p_val (e_assign (v := .slice _ _ _) rfl) rfl ?_
  refine p_nil (x_then (s_seq (s_seq (s_plain ?_))))
  refine p_val (e_assign (v := .int _ _) rfl) rfl ?_
  refine p_nil (x_then (s_block ?_))
  have S := S.addNil 29 32
  refine s_loopK (α := Nat) (ks := [none]) (ps := [Rw _ _ _ _ _]) [(0, .slice _ _ _)] ⟨rfl, trivial⟩ S (fun keep ks ps g f' w' => ∃ u Kk3 Ck3 m xs, f' = upds u ((3, .slice (at_ Kk3) (m) Ck3) :: (4, .int .i64 (g : Int)) :: keep) ∧ (g % 2 = 0) ∧ (g ≤ L.length) ∧ (m = g / 2) ∧ (xs = sv (upL (L.take g))) ∧ St w0 w' [] [Kk3] [Rw 29 32 (m) Ck3 (xs)]) (fun g => L.length - g) (0) (⟨_, _, _, _, _, upds_eq ⟨rfl, rfl, rfl, trivial⟩, by first | omega | rfl | with_reducible assumption | (simp; done) | (simp; omega), by first | omega | rfl | with_reducible assumption | (simp; done) | (simp; omega), by first | omega | rfl | with_reducible assumption | (simp; done) | (simp; omega), by first | omega | rfl | with_reducible assumption | (simp; done) | (simp; omega), S⟩) ?_
  rintro g f w ⟨u, Kk3, Ck3, m, xs, rfl, hq, hg, rfl, rfl, S⟩
  refine s_seq (s_seq (s_plain ?_))
  refine p_val (e_move (v := .int _ _) rfl) rfl ?_
  refine p_val (e_add64 rfl rfl (by omega)) rfl ?_
  refine p_val (e_move (v := .slice _ _ _) rfl) rfl ?_
  refine p_val (e_len rfl Try.underlying24) rfl ?_
  refine p_val (e_lss rfl rfl) rfl ?_
  refine p_nil (x_then ?_)
  refine s_cond rfl (fun hc9 => ?_) (fun hc9 => ?_)
  · refine s_skip (x_then (s_seq (s_block ?_)))
    have hg1 : (L.getD (g : Int).toNat []).length = 32 := hL.getD (by omega)
    have hg2 : (L.getD ((g : Int) + 1).toNat []).length = 32 := hL.getD (by omega)
    refine s_drawK (ks := []) (ps := []) (S.pk [] rfl) [(true, 0), (true, 1), (true, 2), (true, 3), (true, 4), (true, 5), (true, 6), (true, 7), (true, 8), (true, 9), (false, 10), (false, 11), (false, 12)] [13] [13] mixed (by kernel_rfl) (by repeat (first | exact Calm.post _ _ _ | refine Calm.then ?_ _ | refine Calm.inB ?_ _)) (fun hS => ?_)
    have S := S.drew
    refine q_val (fun w hS => e_move (v := .slice _ _ _) rfl) rfl hS ?_
    refine q_val (fun w hS => e_move (v := .slice _ _ _) rfl) rfl hS ?_
    refine q_val (fun w hS => e_move (v := .int _ _) rfl) rfl hS ?_
    refine q_val (fun w hS => e_ixR (hS.rdOld R rfl) (by decide) rfl rfl Try.underlying24 sz29 (by omega)) rfl hS ?_
    refine q_val (fun w hS => e_loadRA rfl ag29 sz29 (by decide) (Rd.sumA (hS.rdOld R rfl) (by with_reducible assumption) (by omega))) rfl hS ?_
    refine q_val (fun w hS => e_move (v := .slice _ _ _) rfl) rfl hS ?_
    refine q_val (fun w hS => e_move (v := .int _ _) rfl) rfl hS ?_
    refine q_val (fun w hS => e_add64 rfl rfl (by omega)) rfl hS ?_
    refine q_val (fun w hS => e_ixR (hS.rdOld R rfl) (by decide) rfl rfl Try.underlying24 sz29 (by omega)) rfl hS ?_
    refine q_val (fun w hS => e_loadRA rfl ag29 sz29 (by decide) (Rd.sumA (hS.rdOld R rfl) (by with_reducible assumption) (by omega))) rfl hS ?_
    refine q_does (d_call Try.func85 nm85 rfl rfl (pair_calls _ _ _ _ (by first | with_reducible assumption | (rw [bv_length]; with_reducible assumption) | (simp [cat, length_join, hg1, hg2]; done) | (simp [cat, length_join, hg1, hg2]; omega) | rfl) (by first | with_reducible assumption | (rw [bv_length]; with_reducible assumption) | (simp [cat, length_join, hg1, hg2]; done) | (simp [cat, length_join, hg1, hg2]; omega) | rfl))) rfl ?_
    rintro _ w ⟨rfl, hB⟩
    have S := S.below hB
    have hS := S.pk [] rfl
    refine ⟨hS, ?_⟩
    refine q_does (d_litS S Try.underlying24 sz29 zv29 rfl (L := [_]) rfl rfl (by intro x hx; simp at hx; simp [hx, length_join, hg1, hg2]) (by decide)) rfl ?_
    rintro _ w ⟨b23, rfl, S⟩
    have hS := S.pk [] rfl
    refine ⟨hS, ?_⟩
    refine q_does (d_append S 1 rfl rfl Try.underlying24 el29 rfl rfl (S.rdRw 0 rfl rfl) (by first | exact bv_one _ | exact sv_one _ | exact iv_one _ | with_reducible assumption | (refine One.mem ?_; repeat (first | exact One.bv _ | exact One.sv _ | exact One.iv _ | exact One.nil | exact One.cat0 | refine One.cat1 ?_ ?_ | refine One.cons rfl ?_ | refine One.append ?_ ?_))) (by first | omega | (simp only [List.length_append, List.length_cons, List.length_nil, bv_length, length_join, hg1, hg2]; omega) | (simp [cat, length_join, hg1, hg2]; omega)) (by unfold maxLen; first | omega | (simp only [List.length_append, List.length_cons, List.length_nil, bv_length, length_join, hg1, hg2]; omega))) rfl ?_
    rintro _ w ⟨k24, c24, rfl, S⟩
    have hS := S.pk [] rfl
    refine ⟨hS, ?_⟩
    refine q_nil ?_
    refine p_val (e_assign (v := .slice _ _ _) rfl) rfl ?_
    refine p_nil (x_in (x_then (s_plain ?_)))
    refine p_val (e_move (v := .int _ _) rfl) rfl ?_
    refine p_val (e_add64 rfl rfl (by omega)) rfl ?_
    refine p_val (e_assign (v := .int _ _) rfl) rfl ?_
    refine p_nil ?_
    refine x_round (g + 2) _ rfl ⟨_, _, _, _, _, upds_eq ⟨rfl, rfl, rfl, trivial⟩, by first | omega | rfl | with_reducible assumption | (simp; done) | (simp; omega), by first | omega | rfl | with_reducible assumption | (simp; done) | (simp; omega), by first | omega | rfl | with_reducible assumption | (simp; done) | (simp; omega), by rw [← sv_append, upL_step hq (by omega), Int.toNat_natCast, show ((g : Int) + 1).toNat = g + 1 by omega]; rfl, S.pk [1] rfl⟩ (by omega)
  · refine s_exit (x_then_exit (x_then_exit (x_in_same (x_then (s_seq ?_)))))
    refine s_cutK (ks := [Kk3]) (ps := [Rw _ _ _ _ _]) [] trivial S (fun keep ks ps f' w' => ∃ u Kk3 Ck3 m2 xs2, f' = upds u ((3, .slice (at_ Kk3) (m2) Ck3) :: keep) ∧ (m2 = (upL L).length) ∧ (xs2 = sv (upL L)) ∧ St w0 w' [] [Kk3] [Rw 29 32 (m2) Ck3 (xs2)]) ?_ ?_
    · refine s_seq (s_plain ?_)
      refine p_val (e_move (v := .slice _ _ _) rfl) rfl ?_
      refine p_val (e_len rfl Try.underlying24) rfl ?_
      refine p_val (e_rem64 rfl rfl (by omega)) rfl ?_
      refine p_val (e_eql rfl rfl) rfl ?_
      refine p_nil (x_then ?_)
      refine s_cond rfl (fun hc28 => ?_) (fun hc28 => ?_)
      · refine s_plain ?_
        refine p_val (e_move (v := .slice _ _ _) rfl) rfl ?_
        refine p_val (e_move (v := .slice _ _ _) rfl) rfl ?_
        refine p_val (e_move (v := .slice _ _ _) rfl) rfl ?_
        refine p_val (e_len rfl Try.underlying24) rfl ?_
        refine p_val (e_sub64 rfl rfl (by omega)) rfl ?_
        refine p_val (e_ixR (S.rdOld R rfl) (by decide) rfl rfl Try.underlying24 sz29 (by omega)) rfl ?_
        refine p_val (e_loadRA rfl ag29 sz29 (by decide) (Rd.sumA (S.rdOld R rfl) (by with_reducible assumption) (by omega))) rfl ?_
        refine p_does (d_litS S Try.underlying24 sz29 zv29 rfl (L := [_]) rfl rfl (All32.single (hL.getD (by omega))) (by decide)) rfl ?_
        rintro _ w ⟨b36, rfl, S⟩
        refine p_does (d_append S 1 rfl rfl Try.underlying24 el29 rfl rfl (S.rdRw 0 rfl rfl) (by first | exact bv_one _ | exact sv_one _ | exact iv_one _ | with_reducible assumption | (refine One.mem ?_; repeat (first | exact One.bv _ | exact One.sv _ | exact One.iv _ | exact One.nil | exact One.cat0 | refine One.cat1 ?_ ?_ | refine One.cons rfl ?_ | refine One.append ?_ ?_))) (by first | omega | (simp only [List.length_append, List.length_cons, List.length_nil, bv_length, length_join, hg1, hg2]; omega) | (simp [cat, length_join, hg1, hg2]; omega)) (by unfold maxLen; first | omega | (simp only [List.length_append, List.length_cons, List.length_nil, bv_length, length_join, hg1, hg2]; omega))) rfl ?_
        rintro _ w ⟨k37, c37, rfl, S⟩
        refine p_val (e_assign (v := .slice _ _ _) rfl) rfl ?_
        refine p_nil ?_
        exact x_then ⟨_, rfl, _, _, _, _, _, upds_eq ⟨rfl, trivial⟩, by rw [upL_length]; omega, by rw [← sv_append, upL_last (l := L) (g := g) hq (by omega), show ((L.length : Int) - 1).toNat = g by omega], S.pk [1] rfl⟩
      · refine s_skip ?_
        exact x_then ⟨_, rfl, _, _, _, _, _, upds_eq ⟨rfl, trivial⟩, by rw [upL_length]; omega, by rw [List.take_of_length_le (by omega)], S⟩
    · rintro f w ⟨u, Kk3, Ck3, m2, xs2, rfl, rfl, rfl, S⟩
      refine x_then (s_seq (s_plain ?_))
      refine p_val (e_move (v := .slice _ _ _) rfl) rfl ?_
      refine p_val (e_assign (v := .slice _ _ _) rfl) rfl ?_
      refine p_nil (x_then (s_ret ?_))
      exact post1 (v := .slice _ _ _) Try.results87 rfl (⟨_, _, rfl, S.pk [0] rfl⟩)
end Go.Proofs.Ytdhfiamgmokfbaa
