/- The third law's example. It proves no statement by itself. -/
import Derived.Test.YtdhfiamgmokfbaaMer4
import Derived.Test.YtdhfiamgmokfbaaShaR
import Derived.Test.YtdhfiamgmokfbaaMark
import Derived.KernelRfl
set_option linter.unusedSimpArgs false
set_option linter.unusedVariables false
set_option maxRecDepth 100000
set_option maxHeartbeats 1000000
namespace Go.Proofs.Ytdhfiamgmokfbaa
open Go Go.RowKit E
attribute [local irreducible] wpList seqH treeH
theorem leaf97_0 : ((mleaf (sumOf [97])).getD 0 0 == (sumOf [97]).getD 0 0) = false := by kernel_rfl
theorem leaf97 : ¬ mleaf (sumOf [97]) = sumOf [97] := fun e => by
  have h := leaf97_0
  rw [e] at h; simp at h
theorem pair97_0 : ((mpair (mleaf (sumOf [97])) (mleaf (sumOf [97]))).getD 0 0 == (mleaf (sumOf [97])).getD 0 0) = false := by kernel_rfl
theorem pair97 : ¬ mpair (mleaf (sumOf [97])) (mleaf (sumOf [97])) = mleaf (sumOf [97]) := fun e => by
  have h := pair97_0
  rw [e] at h; simp at h
theorem l3awake (w0 : World) :
    Ret Try.prog 39 [] w0 fun v w' => v = .bool true ∧ Below w0.heap.size w0 w' := by
  refine enter Try.func39 rfl Try.ntmps39 (Nat.le_of_ble_eq_true rfl) ?_
  have S := St.init w0
  obtain ⟨z, hz⟩ : ∃ z, z = sumOf [97] := ⟨_, rfl⟩
  have hl : z.length = 32 := by rw [hz]; exact length_sumOf _
  have hm1 : mroot [z] = mleaf z := mroot_one rfl
  have hm2 : mroot [z, z] = mpair (mleaf z) (mleaf z) := by { unfold mroot; rw [if_neg (by simp), rootI_up (by simp)]; exact rootI_one _ }
  have hn1 : ¬ mleaf z = z := by { rw [hz]; exact leaf97 }
  have hn2 : ¬ mpair (mleaf z) (mleaf z) = mleaf z := by { rw [hz]; exact pair97 }
  have hck : mcheck (mleaf z) z 0 1 [] := ⟨by decide, by decide, by decide, climbC_end (by decide)⟩
  refine s_seq (s_plain ?_)
  refine p_val (e_assign (v := .bool _) rfl) rfl ?_
  refine p_nil (x_then (s_seq (s_plain ?_)))
  refine p_does (d_litB S Try.underlying33 sz5 zv5 rfl (l := [_]) rfl rfl (by decide)) rfl ?_
  rintro _ w ⟨b2, rfl, S⟩
  refine p_does (d_mark S 0 rfl rfl (by decide) rfl Try.underlying33 Try.underlying5) rfl ?_
  rintro _ w ⟨rfl, S⟩
  refine p_does (d_call Try.func80 nm80 rfl rfl (Ret.mono (R' := fun v w' => v = .agg (bv z).toArray ∧ Below _ _ w') (of_calls _ _ _ [97] (S.rdFz 0 rfl rfl) (by decide)) (fun v w' ⟨hv, hB⟩ => ⟨by rw [hv, hz], hB⟩))) rfl ?_
  rintro _ w ⟨rfl, hB⟩
  have S := S.below hB
  refine p_does (d_allocA S zvS) rfl ?_
  rintro _ w ⟨b1, rfl, S⟩
  refine p_does (d_storeW S 0 rfl rfl (by first | exact bv_one _ | exact sv_one _ | exact iv_one _ | with_reducible assumption | (refine One.mem ?_; repeat (first | exact One.bv _ | exact One.sv _ | exact One.iv _ | exact One.nil | exact One.cat0 | refine One.cat1 ?_ ?_ | refine One.cons rfl ?_ | refine One.append ?_ ?_))) sz29 (by first | with_reducible assumption | (rw [bv_length]; with_reducible assumption) | (rw [List.size_toArray, bv_length]; with_reducible assumption) | (simp [cat, hl, length_mleaf, length_mroot]; done) | (simp [cat, hl, length_mleaf, length_mroot]; omega) | rfl) rfl rfl (by first | with_reducible assumption | (rw [bv_length]; with_reducible assumption) | (rw [List.size_toArray, bv_length]; with_reducible assumption) | (simp [cat, hl, length_mleaf, length_mroot]; done) | (simp [cat, hl, length_mleaf, length_mroot]; omega) | rfl)) rfl ?_
  intro _ w S
  refine p_nil (x_then (s_seq ?_))
  refine s_cutK (ks := [some b1, some b2]) (ps := [Ex _ _, Fz _ _]) [] trivial S (fun keep ks ps f' w' => ∃ u bb, f' = upds u ((0, .bool bb) :: keep) ∧ (bb = true ↔ True) ∧ St w0 w' [] ks ps) ?_ ?_
  · refine s_drawK (ks := [some b1, some b2]) (ps := [Ex _ _, Fz _ _]) S [(true, 0), (true, 3), (false, 1), (false, 2), (false, 4), (true, 5), (true, 6), (true, 7), (true, 10), (false, 8), (false, 9), (true, 11), (true, 12), (true, 13), (true, 14), (true, 15), (true, 18), (false, 16), (false, 17), (false, 19), (true, 20), (true, 21), (true, 22), (true, 23), (true, 25), (false, 24), (false, 26), (true, 27)] [28] [28] mixed (by kernel_rfl) (by repeat (first | exact Calm.post _ _ _ | refine Calm.then ?_ _ | refine Calm.inB ?_ _)) (fun hS => ?_)
    have S := S.drew
    refine q_val (fun w hS => e_loadW 0 rfl ag29 sz29 hS rfl rfl (by first | with_reducible assumption | (rw [bv_length]; with_reducible assumption) | (rw [List.size_toArray, bv_length]; with_reducible assumption) | (simp [cat, hl, length_mleaf, length_mroot]; done) | (simp [cat, hl, length_mleaf, length_mroot]; omega) | rfl)) rfl hS ?_
    refine q_val (fun w hS => e_loadW 0 rfl ag29 sz29 hS rfl rfl (by first | with_reducible assumption | (rw [bv_length]; with_reducible assumption) | (rw [List.size_toArray, bv_length]; with_reducible assumption) | (simp [cat, hl, length_mleaf, length_mroot]; done) | (simp [cat, hl, length_mleaf, length_mroot]; omega) | rfl)) rfl hS ?_
    refine q_does (d_litS S Try.underlying24 sz29 zv29 rfl (L := [_]) rfl rfl (by intro x hx; simp at hx; simp [hx, hl, length_mleaf, length_mroot]) (by decide)) rfl ?_
    rintro _ w ⟨b6, rfl, S⟩
    have hS := S.pk [1, 2] rfl
    refine ⟨hS, ?_⟩
    refine q_does (d_call Try.func42 nm42 rfl rfl (mk_root _ _ _ [z] (S.rdRw 0 rfl rfl) (All32.single hl) (by simp))) rfl ?_
    rintro _ w ⟨rfl, hB⟩
    have S := S.below hB
    have hS := S.pk [1, 2] rfl
    refine ⟨hS, ?_⟩
    refine q_does (d_call Try.func44 nm44 rfl rfl (mk_leaf _ _ (by first | with_reducible assumption | (rw [bv_length]; with_reducible assumption) | (rw [List.size_toArray, bv_length]; with_reducible assumption) | (simp [cat, hl, length_mleaf, length_mroot]; done) | (simp [cat, hl, length_mleaf, length_mroot]; omega) | rfl))) rfl ?_
    rintro _ w ⟨rfl, hB⟩
    have S := S.below hB
    have hS := S.pk [1, 2] rfl
    refine ⟨hS, ?_⟩
    refine q_valB (fun w hS => EqT.sum eq29 gd29 rfl rfl (by first | with_reducible assumption | (rw [bv_length]; with_reducible assumption) | (rw [List.size_toArray, bv_length]; with_reducible assumption) | (simp [cat, hl, length_mleaf, length_mroot]; done) | (simp [cat, hl, length_mleaf, length_mroot]; omega) | rfl) (by first | with_reducible assumption | (rw [bv_length]; with_reducible assumption) | (rw [List.size_toArray, bv_length]; with_reducible assumption) | (simp [cat, hl, length_mleaf, length_mroot]; done) | (simp [cat, hl, length_mleaf, length_mroot]; omega) | rfl)) rfl hS (fun hg10 => ?_) (fun hg10 => ?_)
    · refine q_val (fun w hS => e_move (v := .bool _) rfl) rfl hS ?_
      refine qg_val rfl rfl rfl rfl rfl (fun w hS => e_loadW 0 rfl ag29 sz29 hS rfl rfl (by first | with_reducible assumption | (rw [bv_length]; with_reducible assumption) | (rw [List.size_toArray, bv_length]; with_reducible assumption) | (simp [cat, hl, length_mleaf, length_mroot]; done) | (simp [cat, hl, length_mleaf, length_mroot]; omega) | rfl)) hS ?_
      refine qg_val rfl rfl rfl rfl rfl (fun w hS => e_loadW 0 rfl ag29 sz29 hS rfl rfl (by first | with_reducible assumption | (rw [bv_length]; with_reducible assumption) | (rw [List.size_toArray, bv_length]; with_reducible assumption) | (simp [cat, hl, length_mleaf, length_mroot]; done) | (simp [cat, hl, length_mleaf, length_mroot]; omega) | rfl)) hS ?_
      refine qg_does rfl rfl rfl rfl rfl (d_litS S Try.underlying24 sz29 zv29 rfl (L := [_]) rfl rfl (by intro x hx; simp at hx; simp [hx, hl, length_mleaf, length_mroot]) (by decide)) ?_
      rintro _ w ⟨b13, rfl, S⟩
      have hS := S.pk [2, 3] rfl
      refine ⟨hS, ?_⟩
      refine qg_does rfl rfl rfl rfl rfl (d_call Try.func42 nm42 rfl rfl (mk_root _ _ _ [z] (S.rdRw 0 rfl rfl) (All32.single hl) (by simp))) ?_
      rintro _ w ⟨rfl, hB⟩
      have S := S.below hB
      have hS := S.pk [2, 3] rfl
      refine ⟨hS, ?_⟩
      refine qg_valB rfl rfl rfl rfl rfl (fun w hS => EqT.sumN eq29 gd29 rfl rfl (by first | with_reducible assumption | (rw [bv_length]; with_reducible assumption) | (rw [List.size_toArray, bv_length]; with_reducible assumption) | (simp [cat, hl, length_mleaf, length_mroot]; done) | (simp [cat, hl, length_mleaf, length_mroot]; omega) | rfl) (by first | with_reducible assumption | (rw [bv_length]; with_reducible assumption) | (rw [List.size_toArray, bv_length]; with_reducible assumption) | (simp [cat, hl, length_mleaf, length_mroot]; done) | (simp [cat, hl, length_mleaf, length_mroot]; omega) | rfl)) hS (fun hg16 => ?_) (fun hg16 => ?_)
      · refine q_val (fun w hS => e_pick_t rfl rfl) rfl hS ?_
        refine q_val (fun w hS => e_move (v := .bool _) rfl) rfl hS ?_
        refine qg_val rfl rfl rfl rfl rfl (fun w hS => e_loadW 0 rfl ag29 sz29 hS rfl rfl (by first | with_reducible assumption | (rw [bv_length]; with_reducible assumption) | (rw [List.size_toArray, bv_length]; with_reducible assumption) | (simp [cat, hl, length_mleaf, length_mroot]; done) | (simp [cat, hl, length_mleaf, length_mroot]; omega) | rfl)) hS ?_
        refine qg_val rfl rfl rfl rfl rfl (fun w hS => e_loadW 0 rfl ag29 sz29 hS rfl rfl (by first | with_reducible assumption | (rw [bv_length]; with_reducible assumption) | (rw [List.size_toArray, bv_length]; with_reducible assumption) | (simp [cat, hl, length_mleaf, length_mroot]; done) | (simp [cat, hl, length_mleaf, length_mroot]; omega) | rfl)) hS ?_
        refine qg_val rfl rfl rfl rfl rfl (fun w hS => e_loadW 0 rfl ag29 sz29 hS rfl rfl (by first | with_reducible assumption | (rw [bv_length]; with_reducible assumption) | (rw [List.size_toArray, bv_length]; with_reducible assumption) | (simp [cat, hl, length_mleaf, length_mroot]; done) | (simp [cat, hl, length_mleaf, length_mroot]; omega) | rfl)) hS ?_
        refine qg_does rfl rfl rfl rfl rfl (d_litS S Try.underlying24 sz29 zv29 rfl (L := [_, _]) rfl rfl (by intro x hx; simp at hx; simp [hx, hl, length_mleaf, length_mroot]) (by decide)) ?_
        rintro _ w ⟨b21, rfl, S⟩
        have hS := S.pk [3, 4] rfl
        refine ⟨hS, ?_⟩
        refine qg_does rfl rfl rfl rfl rfl (d_call Try.func42 nm42 rfl rfl (mk_root _ _ _ [z, z] (S.rdRw 0 rfl rfl) (All32.append (All32.single hl) (All32.single hl)) (by simp))) ?_
        rintro _ w ⟨rfl, hB⟩
        have S := S.below hB
        have hS := S.pk [3, 4] rfl
        refine ⟨hS, ?_⟩
        refine qg_does rfl rfl rfl rfl rfl (d_call Try.func44 nm44 rfl rfl (mk_leaf _ _ (by first | with_reducible assumption | (rw [bv_length]; with_reducible assumption) | (rw [List.size_toArray, bv_length]; with_reducible assumption) | (simp [cat, hl, length_mleaf, length_mroot]; done) | (simp [cat, hl, length_mleaf, length_mroot]; omega) | rfl))) ?_
        rintro _ w ⟨rfl, hB⟩
        have S := S.below hB
        have hS := S.pk [3, 4] rfl
        refine ⟨hS, ?_⟩
        refine qg_valB rfl rfl rfl rfl rfl (fun w hS => EqT.sumN eq29 gd29 rfl rfl (by first | with_reducible assumption | (rw [bv_length]; with_reducible assumption) | (rw [List.size_toArray, bv_length]; with_reducible assumption) | (simp [cat, hl, length_mleaf, length_mroot]; done) | (simp [cat, hl, length_mleaf, length_mroot]; omega) | rfl) (by first | with_reducible assumption | (rw [bv_length]; with_reducible assumption) | (rw [List.size_toArray, bv_length]; with_reducible assumption) | (simp [cat, hl, length_mleaf, length_mroot]; done) | (simp [cat, hl, length_mleaf, length_mroot]; omega) | rfl)) hS (fun hg25 => ?_) (fun hg25 => ?_)
        · refine q_val (fun w hS => e_pick_t rfl rfl) rfl hS ?_
          refine q_val (fun w hS => e_move (v := .bool _) rfl) rfl hS ?_
          refine qg_val rfl rfl rfl rfl rfl (fun w hS => e_loadW 0 rfl ag29 sz29 hS rfl rfl (by first | with_reducible assumption | (rw [bv_length]; with_reducible assumption) | (rw [List.size_toArray, bv_length]; with_reducible assumption) | (simp [cat, hl, length_mleaf, length_mroot]; done) | (simp [cat, hl, length_mleaf, length_mroot]; omega) | rfl)) hS ?_
          refine qg_val rfl rfl rfl rfl rfl (fun w hS => e_loadW 0 rfl ag29 sz29 hS rfl rfl (by first | with_reducible assumption | (rw [bv_length]; with_reducible assumption) | (rw [List.size_toArray, bv_length]; with_reducible assumption) | (simp [cat, hl, length_mleaf, length_mroot]; done) | (simp [cat, hl, length_mleaf, length_mroot]; omega) | rfl)) hS ?_
          refine qg_does rfl rfl rfl rfl rfl (d_call Try.func44 nm44 rfl rfl (mk_leaf _ _ (by first | with_reducible assumption | (rw [bv_length]; with_reducible assumption) | (rw [List.size_toArray, bv_length]; with_reducible assumption) | (simp [cat, hl, length_mleaf, length_mroot]; done) | (simp [cat, hl, length_mleaf, length_mroot]; omega) | rfl))) ?_
          rintro _ w ⟨rfl, hB⟩
          have S := S.below hB
          have hS := S.pk [3, 4] rfl
          refine ⟨hS, ?_⟩
          refine qg_does rfl rfl rfl rfl rfl (d_call Try.func38 nm38 rfl rfl (mk_check _ _ _ _ _ _ _ [] (length_mleaf _) hl (Rd.nil _ _ _) (by simp [All32]) (Nat.le_refl _))) ?_
          rintro _ w ⟨rfl, hB⟩
          have S := S.below hB
          have hS := S.pk [3, 4] rfl
          refine ⟨hS, ?_⟩
          refine q_val (fun w hS => e_pick_t rfl rfl) rfl hS ?_
          refine q_nil ?_
          refine p_val (e_assign (v := .bool _) rfl) rfl ?_
          exact p_nil (x_then ⟨_, rfl, _, _, upds_eq ⟨rfl, trivial⟩, by first | (simp; done) | (simp; exact hck) | simp [hck], S.pk [3, 4] rfl⟩)
        · exact False.elim (hg25 (fun h => hn2 (hm2.symm.trans h)))
      · exact False.elim (hg16 (fun h => hn1 (hm1.symm.trans h)))
    · exact False.elim (hg10 hm1)
  · rintro f w ⟨u, b0, rfl, hb0, S⟩
    refine x_then (s_ret ?_)
    exact post1 (v := .bool _) Try.results39 rfl (⟨by rw [hb0.2 trivial], S.to_below⟩)
end Go.Proofs.Ytdhfiamgmokfbaa
