/- Own texts, one behind the other: walks and laws that the statement needs. They prove no statement by themselves. -/
import Derived.Test.YtcgcjklpilbndaaZP37a3
import Derived.Test.YtcgcjklpilbndaaZP37a2
/- All that what is known comes to, walked. It proves no statement by itself. -/
set_option linter.unusedSimpArgs false
set_option linter.unusedVariables false
set_option maxRecDepth 100000
set_option maxHeartbeats 2000000
namespace Go.Proofs.Ytcgcjklpilbndaa
open Go Go.RowKit E
attribute [local irreducible] wpList seqH treeH
abbrev nv (K : List Nat) : List Value := iv (K.map fun (x : Nat) => (x : Int))
abbrev intR (n c : Nat) (K : List Nat) : Option Obj → Prop := Rw 3 1 n c (nv K)
theorem nv_get {K : List Nat} {i : Nat} (h : i < K.length) : (nv K)[i]? = some (.int .i64 ((K.getD i 0 : Nat) : Int)) := by
  simp [nv, iv, List.getD_eq_getElem?_getD, h]
theorem md_open (w0 : World) (hb : Nat) (kn mk kk : Option Nat) (c ck : Nat) (B : List Nd) (K : List Nat) (S0 : St w0 w0 (exOf [some hb, kn, kk]) [some hb, kn, kk] [mindE kn mk kk B.length c K.length ck, nodeR B.length c B, intR K.length ck K]) (hM : Mind B K) (hl : B.length ≤ 1000000) (hkl : K.length ≤ 1000000) :
    Ret Try.prog 51 [.pointer (some ⟨hb, 0, none⟩)] w0 fun v w' => ∃ k2 c2 l, v = .slice (at_ k2) B.length c2 ∧ List.length l = B.length ∧ (∀ i, On l i ↔ Has B K i) ∧ St w0 w' (exOf [some hb, kn, kk]) [k2, some hb, kn, kk] [boolR B.length c2 l, mindE kn mk kk B.length c K.length ck, nodeR B.length c B, intR K.length ck K] := by
  refine enter Try.func51 rfl Try.ntmps51 (Nat.le_of_ble_eq_true rfl) ?_
  have S := S0
  refine s_seq (s_plain ?_)
  refine p_val (e_assign (v := .slice _ _ _) rfl) rfl ?_
  refine p_nil (x_then (s_seq (s_plain ?_)))
  refine p_val (e_move (v := .pointer _) rfl) rfl ?_
  refine p_val (e_nil rfl rfl) rfl ?_
  refine p_val (e_field rfl Try.underlying33 rfl sz30 (by decide)) rfl ?_
  refine p_val (e_field rfl Try.underlying30 rfl sz23 (by decide)) rfl ?_
  refine p_val (e_loadF1 (i := 0) (off := 0) rfl ag23 S (j := 0) rfl rfl rfl (by first | with_reducible assumption | (rw [bv_length]; with_reducible assumption) | (rw [List.size_toArray, bv_length]; with_reducible assumption) | (simp [cat]; done) | (simp [cat]; omega) | rfl)) rfl ?_
  refine p_val (e_len rfl Try.underlying23) rfl ?_
  refine p_does (d_make1 S Try.underlying105 el4 zv4 rfl (B.length) rfl rfl (by omega) (by unfold maxLen; omega)) rfl ?_
  rintro _ w ⟨b15, rfl, S⟩
  refine p_val (e_assign (v := .slice _ _ _) rfl) rfl ?_
  refine p_nil (x_then (s_seq (s_seq (s_plain ?_))))
  refine p_val (e_move (v := .pointer _) rfl) rfl ?_
  refine p_val (e_nil rfl rfl) rfl ?_
  refine p_val (e_field rfl Try.underlying33 rfl sz31 (by decide)) rfl ?_
  refine p_val (e_loadF1 (i := 2) (off := 2) rfl ag31 S (j := 1) rfl rfl rfl (by first | with_reducible assumption | (rw [bv_length]; with_reducible assumption) | (rw [List.size_toArray, bv_length]; with_reducible assumption) | (simp [cat]; done) | (simp [cat]; omega) | rfl)) rfl ?_
  refine p_val (e_len rfl Try.underlying31) rfl ?_
  refine p_val (e_move (v := .int _ _) rfl) rfl ?_
  refine p_nil (x_then (s_block ?_))
  refine s_loopK (α := Nat) (ks := [some b15, some hb, kn, kk]) (ps := [Rw _ _ _ _ _, Ex _ _, Rw _ _ _ _ _, Rw _ _ _ _ _]) [(0, .pointer _), (3, .slice _ _ _), (19, .slice _ _ _), (20, .int _ _)] ⟨rfl, rfl, rfl, rfl, trivial⟩ S (fun keep ks ps g f' w' => ∃ u l, f' = upds u ((21, .int .i64 (g : Int)) :: keep) ∧ (g ≤ K.length) ∧ (KI B K l g) ∧ St w0 w' (exOf [some hb, kn, kk]) [some b15, some hb, kn, kk] [boolR B.length B.length l, (ps.getD 1 fun _ => True), (ps.getD 2 fun _ => True), (ps.getD 3 fun _ => True)]) (fun g => K.length - g) (0) (⟨_, List.replicate B.length false, upds_eq ⟨rfl, rfl, rfl, rfl, rfl, trivial⟩, by omega, KI.start, by { have e : List.replicate B.length (Value.bool false) = bbv (List.replicate B.length false) := (by simp [bbv]); rw [e] at S; exact S }⟩) ?_
  rintro g f w ⟨u, l, rfl, hg, hK, S⟩
  refine s_seq (s_plain ?_)
  refine p_val (e_lss rfl rfl) rfl ?_
  refine p_nil (x_then (s_seq ?_))
  refine s_cond rfl (fun hc22 => ?_) (fun hc22 => ?_)
  · have hkm : K.getD g 0 < B.length := by { refine hM.kn _ ?_; rw [List.getD_eq_getElem?_getD, List.getElem?_eq_getElem (by omega)]; exact List.getElem_mem _ }
    refine s_skip (x_then (s_seq (s_block (s_seq (s_plain ?_)))))
    refine p_val (e_ixR (S.rdRw 3 rfl rfl) (by decide) rfl rfl Try.underlying31 sz3 (by omega)) rfl ?_
    refine p_val (e_loadR1i rfl ag3 (S.rdRw 3 rfl rfl) (nv_get (i := g) (by omega))) rfl ?_
    refine p_val (e_assign (v := .int _ _) rfl) rfl ?_
    refine p_nil (x_then (s_plain ?_))
    refine p_val (e_move (v := .slice _ _ _) rfl) rfl ?_
    refine p_val (e_move (v := .int _ _) rfl) rfl ?_
    refine p_val (e_ixR (S.rdRw 0 rfl rfl) (by decide) rfl rfl Try.underlying105 sz4 (by omega)) rfl ?_
    refine p_does (d_storeRw1 (v := .bool _) S 0 rfl rfl rfl rfl rfl sz4 (by omega)) rfl ?_
    intro _ w S
    rw [bbv_set, Int.toNat_natCast] at S
    refine p_nil (x_in (x_then (s_plain ?_)))
    refine p_val (e_add64 rfl rfl (by omega)) rfl ?_
    refine p_val (e_move (v := .int _ _) rfl) rfl ?_
    refine p_nil ?_
    refine x_round (g + 1) _ rfl ⟨_, _, upds_eq ⟨rfl, rfl, rfl, rfl, rfl, trivial⟩, by first | omega | rfl | with_reducible assumption | (simp; done) | (simp; omega), hK.next (by omega) hM.kn, S⟩ (by omega)
  · refine s_exit (x_then_exit (x_then_exit (x_in_same (x_then (s_seq (s_seq (s_plain ?_)))))))
    refine p_val (e_assign (v := .bool _) rfl) rfl ?_
    refine p_nil (x_then (s_block ?_))
    refine s_loopK (α := Nat) (ks := [some b15, some hb, kn, kk]) (ps := [Rw _ _ _ _ _, Ex _ _, Rw _ _ _ _ _, Rw _ _ _ _ _]) [(0, .pointer _), (3, .slice _ _ _)] ⟨rfl, rfl, trivial⟩ S (fun keep ks ps g f' w' => ∃ u l0 mo0, f' = upds u ((6, .bool mo0) :: keep) ∧ (g = 2 * cntF l0 + (if mo0 = true then 1 else 0)) ∧ (OI B K l0) ∧ (mo0 = false → ∀ i, i < B.length → ClAt B l0 i) ∧ St w0 w' (exOf [some hb, kn, kk]) [some b15, some hb, kn, kk] [boolR B.length B.length l0, (ps.getD 1 fun _ => True), (ps.getD 2 fun _ => True), (ps.getD 3 fun _ => True)]) (fun g => g) (2 * cntF l + 1) (⟨_, _, _, upds_eq ⟨rfl, rfl, rfl, trivial⟩, rfl, by obtain rfl : g = K.length := (by omega); exact hK.done, (fun h => by cases h), S⟩) ?_
    rintro g f w ⟨u, l0, mo0, rfl, hg2, hO0, hC, S⟩
    refine s_seq (s_seq (s_plain ?_))
    refine p_val (e_move (v := .bool _) rfl) rfl ?_
    refine p_nil (x_then ?_)
    refine s_condb rfl (fun hc29 => ?_) (fun hc29 => ?_)
    · subst hc29
      refine s_skip (x_then (s_block (s_seq (s_plain ?_))))
      refine p_val (e_assign (v := .bool _) rfl) rfl ?_
      refine p_nil (x_then (s_seq (s_plain ?_)))
      refine p_val (e_move (v := .pointer _) rfl) rfl ?_
      refine p_val (e_nil rfl rfl) rfl ?_
      refine p_val (e_field rfl Try.underlying33 rfl sz30 (by decide)) rfl ?_
      refine p_val (e_field rfl Try.underlying30 rfl sz23 (by decide)) rfl ?_
      refine p_val (e_loadF1 (i := 0) (off := 0) rfl ag23 S (j := 1) rfl rfl rfl (by first | with_reducible assumption | (rw [bv_length]; with_reducible assumption) | (rw [List.size_toArray, bv_length]; with_reducible assumption) | (simp [cat]; done) | (simp [cat]; omega) | rfl)) rfl ?_
      refine p_val (e_len rfl Try.underlying23) rfl ?_
      refine p_val (e_move (v := .int _ _) rfl) rfl ?_
      refine p_nil (x_then (s_block ?_))
      refine s_loopK (α := Nat) (ks := [some b15, some hb, kn, kk]) (ps := [Rw _ _ _ _ _, Ex _ _, Rw _ _ _ _ _, Rw _ _ _ _ _]) [(0, .pointer _), (3, .slice _ _ _), (34, .slice _ _ _), (35, .int _ _)] ⟨rfl, rfl, rfl, rfl, trivial⟩ S (fun keep ks ps j f' w' => ∃ u l mo, f' = upds u ((6, .bool mo) :: (36, .int .i64 (j : Int)) :: keep) ∧ (j ≤ B.length) ∧ (OI B K l) ∧ (PI B l0 j l mo) ∧ St w0 w' (exOf [some hb, kn, kk]) [some b15, some hb, kn, kk] [boolR B.length B.length l, (ps.getD 1 fun _ => True), (ps.getD 2 fun _ => True), (ps.getD 3 fun _ => True)]) (fun j => B.length - j) (0) (⟨_, _, _, upds_eq ⟨rfl, rfl, rfl, rfl, rfl, rfl, trivial⟩, by first | omega | rfl | with_reducible assumption | (simp; done) | (simp; omega), hO0, PI.start B l0, S⟩) ?_
      rintro j f w ⟨u, l, mo, rfl, hj, hO, hP, S⟩
      refine s_seq (s_plain ?_)
      refine p_val (e_lss rfl rfl) rfl ?_
      refine p_nil (x_then (s_seq ?_))
      refine s_cond rfl (fun hc37 => ?_) (fun hc37 => ?_)
      · obtain ⟨n, hn⟩ : ∃ n, n = B.getD j nd0 := ⟨_, rfl⟩
        have hat0 : B[j]? = some n := by rw [hn]; exact getD_at nd0 (by omega)
        have hat : B[(j : Int).toNat]? = some n := hat0
        have hwl := fun h => wf_lt hM.wf hat0 h
        have hol := hO.1
        obtain ⟨ob, hob⟩ : ∃ ob, ob = l.getD j false := ⟨_, rfl⟩
        refine s_skip (x_then (s_seq ?_))
        refine s_cutK (ks := [some b15, some hb, kn, kk]) (ps := [Rw _ _ _ _ _, Ex _ _, Rw _ _ _ _ _, Rw _ _ _ _ _]) [(0, .pointer _), (3, .slice _ _ _), (34, .slice _ _ _), (35, .int _ _), (36, .int _ _)] ⟨rfl, rfl, rfl, rfl, rfl, trivial⟩ S (fun keep ks ps f' w' => ∃ u l2 mo2, f' = upds u ((6, .bool mo2) :: keep) ∧ (OI B K l2) ∧ (PI B l0 (j + 1) l2 mo2) ∧ St w0 w' (exOf [some hb, kn, kk]) [some b15, some hb, kn, kk] [boolR B.length B.length l2, (ps.getD 1 fun _ => True), (ps.getD 2 fun _ => True), (ps.getD 3 fun _ => True)]) ?_ ?_
        · refine s_block (s_seq (s_plain ?_))
          refine p_val (e_move (v := .int _ _) rfl) rfl ?_
          refine p_val (e_ixR (S.rdRw 2 rfl rfl) (by decide) rfl rfl Try.underlying23 sz40 (by omega)) rfl ?_
          refine p_val (e_loadRA rfl ag40 sz40 (by decide) ((Rd.elemA (S.rdRw 2 rfl rfl) (fun _ _ => rfl) (hat)))) rfl ?_
          refine p_does (d_allocA S zs40) rfl ?_
          rintro _ w ⟨b8, rfl, S⟩
          refine p_val (e_assign (v := .int _ _) rfl) rfl ?_
          refine p_does (d_storeW S 0 rfl rfl (by first | exact bv_one _ | exact sv_one _ | exact iv_one _ | with_reducible assumption | (refine One.mem ?_; repeat (first | exact One.bv _ | exact One.sv _ | exact One.iv _ | exact One.nil | exact One.cat0 | refine One.cat1 ?_ ?_ | refine One.cons rfl ?_ | refine One.append ?_ ?_))) sz40 (by first | with_reducible assumption | (rw [bv_length]; with_reducible assumption) | (rw [List.size_toArray, bv_length]; with_reducible assumption) | (simp [cat]; done) | (simp [cat]; omega) | rfl) rfl rfl (by first | with_reducible assumption | (rw [bv_length]; with_reducible assumption) | (rw [List.size_toArray, bv_length]; with_reducible assumption) | (simp [cat]; done) | (simp [cat]; omega) | rfl)) rfl ?_
          intro _ w S
          refine p_nil (x_then (s_seq (s_seq (s_plain ?_))))
          refine p_val (e_move (v := .slice _ _ _) rfl) rfl ?_
          refine p_val (e_move (v := .int _ _) rfl) rfl ?_
          refine p_val (e_ixR (S.rdRw 1 rfl rfl) (by decide) rfl rfl Try.underlying105 sz4 (by omega)) rfl ?_
          refine p_val (e_loadR1i (v := .bool ob) rfl ag4 (S.rdRw 1 rfl rfl) (by rw [hob]; exact bbv_get (by omega))) rfl ?_
          refine p_val (e_not rfl) rfl ?_
          refine p_nil (x_then ?_)
          refine s_condb rfl (fun hc45 => ?_) (fun hc45 => ?_)
          · have hoff : l.getD j false = false := by rw [← hob]; simpa using hc45
            refine s_exit (x_then_exit (x_in_same ?_))
            exact x_then ⟨_, rfl, _, _, _, upds_eq ⟨rfl, rfl, rfl, rfl, rfl, rfl, trivial⟩, hO, off_step hP hoff, S.pk [1, 2, 3, 4] rfl⟩
          · have hon : On l j := by { show l.getD j false = true; rw [← hob]; simpa using hc45 }
            refine s_skip (x_then (s_seq (s_plain ?_)))
            refine p_val (e_field rfl Try.underlying40 rfl sz3 (by decide)) rfl ?_
            refine p_val (e_loadF1 (i := 0) (off := 0) rfl ag3 S (j := 0) rfl rfl rfl (by first | with_reducible assumption | (rw [bv_length]; with_reducible assumption) | (rw [List.size_toArray, bv_length]; with_reducible assumption) | (simp [cat]; done) | (simp [cat]; omega) | rfl)) rfl ?_
            refine p_nil (x_then (s_block (s_seq (s_plain ?_))))
            refine p_val (e_eql rfl rfl) rfl ?_
            refine p_val (e_assign (v := .bool _) rfl) rfl ?_
            refine p_nil (x_then ?_)
            refine s_cond rfl (fun hc48 => ?_) (fun hc48 => ?_)
            · have hw := hwl (.inl hc48)
              refine s_seq ?_
              refine s_cutK (ks := [some b8, some b15, some hb, kn, kk]) (ps := [Ex _ _, Rw _ _ _ _ _, Ex _ _, Rw _ _ _ _ _, Rw _ _ _ _ _]) [(0, .pointer _), (3, .slice _ _ _), (8, .pointer _), (34, .slice _ _ _), (35, .int _ _), (36, .int _ _)] ⟨rfl, rfl, rfl, rfl, rfl, rfl, trivial⟩ S (fun keep ks ps f' w' => ∃ u bb, f' = upds u ((6, .bool bb) :: keep) ∧ (bb = true ↔ l.getD n.a.toNat false = false ∨ mo = true) ∧ St w0 w' (exOf [some hb, kn, kk]) ks [(ps.getD 0 fun _ => True), boolR B.length B.length (l.set n.a.toNat true), (ps.getD 2 fun _ => True), (ps.getD 3 fun _ => True), (ps.getD 4 fun _ => True)]) ?_ ?_
              · refine s_plain ?_
                refine p_val (e_move (v := .slice _ _ _) rfl) rfl ?_
                refine p_val (e_field rfl Try.underlying40 rfl sz3 (by decide)) rfl ?_
                refine p_val (e_loadF1 (i := 1) (off := 1) rfl ag3 S (j := 0) rfl rfl rfl (by first | with_reducible assumption | (rw [bv_length]; with_reducible assumption) | (rw [List.size_toArray, bv_length]; with_reducible assumption) | (simp [cat]; done) | (simp [cat]; omega) | rfl)) rfl ?_
                refine p_does (d_call Try.func70 nm70 rfl rfl (tm_set _ _ _ _ _ _ (S.hr [1] rfl) (by omega) (by omega))) rfl ?_
                rintro _ w ⟨rfl, T⟩
                have S := (S.call [1] T rfl).pk [1, 0, 3, 4, 5] rfl
                rcases Classical.em (l.getD n.a.toNat false = false) with hg53 | hg53
                · rw [decide_eq_true hg53]
                  refine p_val (e_move (v := .bool _) rfl) rfl ?_
                  refine p_no rfl rfl rfl rfl rfl ?_
                  refine p_val (e_pick_t rfl rfl) rfl ?_
                  refine p_val (e_assign (v := .bool _) rfl) rfl ?_
                  exact p_nil (x_then ⟨_, rfl, _, _, upds_eq ⟨rfl, rfl, rfl, rfl, rfl, rfl, rfl, trivial⟩, by first | (simp only [decide_eq_true_eq, eq_self, true_iff, iff_true, iff_false, Bool.false_eq_true, false_iff, ge_iff_le, gt_iff_lt, true_and, and_true, false_and, and_false, true_or, or_true, false_or, or_false, not_true_eq_false, not_false_eq_true]; omega) | (simp; done) | omega | (simp_all; done), S⟩)
                · rw [decide_eq_false hg53]
                  refine p_val (e_move (v := .bool _) rfl) rfl ?_
                  refine pg_val rfl rfl rfl rfl rfl (e_move (v := .bool _) rfl) ?_
                  refine p_val (e_pick_f rfl rfl) rfl ?_
                  refine p_val (e_assign (v := .bool _) rfl) rfl ?_
                  exact p_nil (x_then ⟨_, rfl, _, _, upds_eq ⟨rfl, rfl, rfl, rfl, rfl, rfl, rfl, trivial⟩, by first | (simp only [decide_eq_true_eq, eq_self, true_iff, iff_true, iff_false, Bool.false_eq_true, false_iff, ge_iff_le, gt_iff_lt, true_and, and_true, false_and, and_false, true_or, or_true, false_or, or_false, not_true_eq_false, not_false_eq_true]; omega) | (simp; done) | omega | (simp_all; done), S⟩)
              · rintro f w ⟨u, b6, rfl, hb6, S⟩
                obtain ⟨m1, rfl⟩ : ∃ m1, m1 = b6 := ⟨_, rfl⟩
                have hm1 := hb6
                refine x_then ?_
                refine s_cutK (ks := [some b8, some b15, some hb, kn, kk]) (ps := [Ex _ _, Rw _ _ _ _ _, Ex _ _, Rw _ _ _ _ _, Rw _ _ _ _ _]) [(0, .pointer _), (3, .slice _ _ _), (34, .slice _ _ _), (35, .int _ _), (36, .int _ _)] ⟨rfl, rfl, rfl, rfl, rfl, trivial⟩ S (fun keep ks ps f' w' => ∃ u bb, f' = upds u ((6, .bool bb) :: keep) ∧ (bb = true ↔ (l.set n.a.toNat true).getD n.b.toNat false = false ∨ m1 = true) ∧ St w0 w' (exOf [some hb, kn, kk]) ks [(ps.getD 0 fun _ => True), boolR B.length B.length ((l.set n.a.toNat true).set n.b.toNat true), (ps.getD 2 fun _ => True), (ps.getD 3 fun _ => True), (ps.getD 4 fun _ => True)]) ?_ ?_
                · refine s_plain ?_
                  refine p_val (e_move (v := .slice _ _ _) rfl) rfl ?_
                  refine p_val (e_field rfl Try.underlying40 rfl sz3 (by decide)) rfl ?_
                  refine p_val (e_loadF1 (i := 2) (off := 2) rfl ag3 S (j := 0) rfl rfl rfl (by first | with_reducible assumption | (rw [bv_length]; with_reducible assumption) | (rw [List.size_toArray, bv_length]; with_reducible assumption) | (simp [cat]; done) | (simp [cat]; omega) | rfl)) rfl ?_
                  refine p_does (d_call Try.func70 nm70 rfl rfl (tm_set _ _ _ _ _ _ (S.hr [1] rfl) (by omega) (by rw [List.length_set]; omega))) rfl ?_
                  rintro _ w ⟨rfl, T⟩
                  have S := (S.call [1] T rfl).pk [1, 0, 3, 4, 5] rfl
                  rcases Classical.em ((l.set n.a.toNat true).getD n.b.toNat false = false) with hg60 | hg60
                  · rw [decide_eq_true hg60]
                    refine p_val (e_move (v := .bool _) rfl) rfl ?_
                    refine p_no rfl rfl rfl rfl rfl ?_
                    refine p_val (e_pick_t rfl rfl) rfl ?_
                    refine p_val (e_assign (v := .bool _) rfl) rfl ?_
                    exact p_nil (x_then ⟨_, rfl, _, _, upds_eq ⟨rfl, rfl, rfl, rfl, rfl, rfl, trivial⟩, by first | (simp only [decide_eq_true_eq, eq_self, true_iff, iff_true, iff_false, Bool.false_eq_true, false_iff, ge_iff_le, gt_iff_lt, true_and, and_true, false_and, and_false, true_or, or_true, false_or, or_false, not_true_eq_false, not_false_eq_true]; omega) | (simp; done) | omega | (simp_all; done), S⟩)
                  · rw [decide_eq_false hg60]
                    refine p_val (e_move (v := .bool _) rfl) rfl ?_
                    refine pg_val rfl rfl rfl rfl rfl (e_move (v := .bool _) rfl) ?_
                    refine p_val (e_pick_f rfl rfl) rfl ?_
                    refine p_val (e_assign (v := .bool _) rfl) rfl ?_
                    exact p_nil (x_then ⟨_, rfl, _, _, upds_eq ⟨rfl, rfl, rfl, rfl, rfl, rfl, trivial⟩, by first | (simp only [decide_eq_true_eq, eq_self, true_iff, iff_true, iff_false, Bool.false_eq_true, false_iff, ge_iff_le, gt_iff_lt, true_and, and_true, false_and, and_false, true_or, or_true, false_or, or_false, not_true_eq_false, not_false_eq_true]; omega) | (simp; done) | omega | (simp_all; done), S⟩)
                · rintro f w ⟨u, b6, rfl, hb6, S⟩
                  refine x_in (x_in ?_)
                  exact x_then ⟨_, rfl, _, _, _, upds_eq ⟨rfl, rfl, rfl, rfl, rfl, rfl, trivial⟩, (pair_step hM.wf hO hP hat0 hon hc48 hm1 hb6).1, (pair_step hM.wf hO hP hat0 hon hc48 hm1 hb6).2, S.pk [1, 2, 3, 4] rfl⟩
            · refine s_seq (s_plain ?_)
              refine p_val (e_eql rfl rfl) rfl ?_
              refine p_val (e_assign (v := .bool _) rfl) rfl ?_
              refine p_nil (x_then ?_)
              refine s_cond rfl (fun hc64 => ?_) (fun hc64 => ?_)
              · have hw := hwl (.inr (.inl hc64))
                refine s_cutK (ks := [some b8, some b15, some hb, kn, kk]) (ps := [Ex _ _, Rw _ _ _ _ _, Ex _ _, Rw _ _ _ _ _, Rw _ _ _ _ _]) [(0, .pointer _), (3, .slice _ _ _), (34, .slice _ _ _), (35, .int _ _), (36, .int _ _)] ⟨rfl, rfl, rfl, rfl, rfl, trivial⟩ S (fun keep ks ps f' w' => ∃ u bb, f' = upds u ((6, .bool bb) :: keep) ∧ (bb = true ↔ l.getD n.b.toNat false = false ∨ mo = true) ∧ St w0 w' (exOf [some hb, kn, kk]) ks [(ps.getD 0 fun _ => True), boolR B.length B.length (l.set n.b.toNat true), (ps.getD 2 fun _ => True), (ps.getD 3 fun _ => True), (ps.getD 4 fun _ => True)]) ?_ ?_
                · refine s_plain ?_
                  refine p_val (e_move (v := .slice _ _ _) rfl) rfl ?_
                  refine p_val (e_field rfl Try.underlying40 rfl sz3 (by decide)) rfl ?_
                  refine p_val (e_loadF1 (i := 2) (off := 2) rfl ag3 S (j := 0) rfl rfl rfl (by first | with_reducible assumption | (rw [bv_length]; with_reducible assumption) | (rw [List.size_toArray, bv_length]; with_reducible assumption) | (simp [cat]; done) | (simp [cat]; omega) | rfl)) rfl ?_
                  refine p_does (d_call Try.func70 nm70 rfl rfl (tm_set _ _ _ _ _ _ (S.hr [1] rfl) (by omega) (by omega))) rfl ?_
                  rintro _ w ⟨rfl, T⟩
                  have S := (S.call [1] T rfl).pk [1, 0, 3, 4, 5] rfl
                  rcases Classical.em (l.getD n.b.toNat false = false) with hg69 | hg69
                  · rw [decide_eq_true hg69]
                    refine p_val (e_move (v := .bool _) rfl) rfl ?_
                    refine p_no rfl rfl rfl rfl rfl ?_
                    refine p_val (e_pick_t rfl rfl) rfl ?_
                    refine p_val (e_assign (v := .bool _) rfl) rfl ?_
                    exact p_nil (x_then ⟨_, rfl, _, _, upds_eq ⟨rfl, rfl, rfl, rfl, rfl, rfl, trivial⟩, by first | (simp only [decide_eq_true_eq, eq_self, true_iff, iff_true, iff_false, Bool.false_eq_true, false_iff, ge_iff_le, gt_iff_lt, true_and, and_true, false_and, and_false, true_or, or_true, false_or, or_false, not_true_eq_false, not_false_eq_true]; omega) | (simp; done) | omega | (simp_all; done), S⟩)
                  · rw [decide_eq_false hg69]
                    refine p_val (e_move (v := .bool _) rfl) rfl ?_
                    refine pg_val rfl rfl rfl rfl rfl (e_move (v := .bool _) rfl) ?_
                    refine p_val (e_pick_f rfl rfl) rfl ?_
                    refine p_val (e_assign (v := .bool _) rfl) rfl ?_
                    exact p_nil (x_then ⟨_, rfl, _, _, upds_eq ⟨rfl, rfl, rfl, rfl, rfl, rfl, trivial⟩, by first | (simp only [decide_eq_true_eq, eq_self, true_iff, iff_true, iff_false, Bool.false_eq_true, false_iff, ge_iff_le, gt_iff_lt, true_and, and_true, false_and, and_false, true_or, or_true, false_or, or_false, not_true_eq_false, not_false_eq_true]; omega) | (simp; done) | omega | (simp_all; done), S⟩)
                · rintro f w ⟨u, b6, rfl, hb6, S⟩
                  refine x_in (x_in ?_)
                  exact x_then ⟨_, rfl, _, _, _, upds_eq ⟨rfl, rfl, rfl, rfl, rfl, rfl, trivial⟩, (one_step hM.wf hO hP hat0 hon (.inl hc64) (fun h => by omega) hb6).1, (one_step hM.wf hO hP hat0 hon (.inl hc64) (fun h => by omega) hb6).2, S.pk [1, 2, 3, 4] rfl⟩
              · refine s_seq (s_plain ?_)
                refine p_val (e_eql rfl rfl) rfl ?_
                refine p_val (e_assign (v := .bool _) rfl) rfl ?_
                refine p_nil (x_then ?_)
                refine s_cond rfl (fun hc73 => ?_) (fun hc73 => ?_)
                · have hw := hwl (.inr (.inr hc73))
                  refine s_seq ?_
                  refine s_cutK (ks := [some b8, some b15, some hb, kn, kk]) (ps := [Ex _ _, Rw _ _ _ _ _, Ex _ _, Rw _ _ _ _ _, Rw _ _ _ _ _]) [(0, .pointer _), (3, .slice _ _ _), (6, .bool _), (8, .pointer _), (34, .slice _ _ _), (35, .int _ _), (36, .int _ _)] ⟨rfl, rfl, rfl, rfl, rfl, rfl, rfl, trivial⟩ S (fun keep ks ps f' w' => ∃ u ox, f' = upds u ((81, .bool ox) :: keep) ∧ (ox = true ↔ Mk B (On l) n.a.toNat) ∧ St w0 w' (exOf [some hb, kn, kk]) [some b8, some b15, some hb, kn, kk] [(ps.getD 0 fun _ => True), (ps.getD 1 fun _ => True), (ps.getD 2 fun _ => True), (ps.getD 3 fun _ => True), (ps.getD 4 fun _ => True)]) ?_ ?_
                  · refine s_drawTK (ks := [some b8, some b15, some hb, kn, kk]) (ps := [Ex _ _, Rw _ _ _ _ _, Ex _ _, Rw _ _ _ _ _, Rw _ _ _ _ _]) S (.sq [(true, 0), (true, 1), (true, 3), (true, 4), (false, 2)] (.re (.sq [(true, 5), (true, 6)] .stop))) [] [] mixed (by kernel_rfl) (by repeat (first | exact Calm.post _ _ _ | refine Calm.then ?_ _ | refine Calm.inB ?_ _)) (fun hS => ?_)
                    have S := S.drew
                    refine t_sq ?_
                    refine q_val (fun w hS => e_move (v := .pointer _) rfl) rfl hS ?_
                    refine q_val (fun w hS => e_move (v := .slice _ _ _) rfl) rfl hS ?_
                    refine q_val (fun w hS => e_field rfl Try.underlying40 rfl sz3 (by decide)) rfl hS ?_
                    refine q_val (fun w hS => e_loadF1 (i := 1) (off := 1) rfl ag3 hS (j := 0) rfl rfl rfl (by first | with_reducible assumption | (rw [bv_length]; with_reducible assumption) | (rw [List.size_toArray, bv_length]; with_reducible assumption) | (simp [cat]; done) | (simp [cat]; omega) | rfl)) rfl hS ?_
                    refine q_does (d_call Try.func50 nm50 rfl rfl (md_make _ _ _ _ _ _ _ _ B _ _ l (S.hr [2, 3] rfl) hM.wf (by omega) hol (S.rdRw 1 rfl rfl) (S.offRow 1 [2, 3] rfl rfl))) rfl ?_
                    rintro _ w ⟨k77, c77, o77, rfl, ho77, hm77, T⟩
                    have S := (S.call [2, 3] T rfl).pk [0, 3, 4, 1, 2, 7] rfl
                    have hS := S.pk [1, 2, 3, 4, 5] rfl
                    refine ⟨hS, ?_⟩
                    refine q_nil ?_
                    refine t_reK (ks := [some b8, some b15, some hb, kn, kk, k77]) (ps := [Ex _ _, Rw _ _ _ _ _, Ex _ _, Rw _ _ _ _ _, Rw _ _ _ _ _, Rw _ _ _ _ _]) (S.pk [1, 2, 3, 4, 5, 0] rfl) (fun w' h => h.pk [0, 1, 2, 3, 4] rfl) (fun hS => ?_)
                    refine t_sq ?_
                    refine q_val (fun w hS => e_ixR (hS.rdRw 5 rfl rfl) (by decide) rfl rfl Try.underlying105 sz4 (by omega)) rfl hS ?_
                    refine q_val (fun w hS => e_loadR1i (v := .bool (o77.getD n.a.toNat false)) rfl ag4 (hS.rdRw 5 rfl rfl) (bbv_get (by omega))) rfl hS ?_
                    refine q_nil ?_
                    exact t_stop (p_nil (x_then ⟨_, rfl, _, _, upds_eq ⟨rfl, rfl, rfl, rfl, rfl, rfl, rfl, rfl, trivial⟩, hm77 _ (by omega), S.pk [1, 2, 3, 4, 5] rfl⟩))
                  · rintro f w ⟨u, ox, rfl, hox, S⟩
                    refine x_then ?_
                    refine s_condb rfl (fun hc81 => ?_) (fun hc81 => ?_)
                    · refine s_cutK (ks := [some b8, some b15, some hb, kn, kk]) (ps := [Ex _ _, Rw _ _ _ _ _, Ex _ _, Rw _ _ _ _ _, Rw _ _ _ _ _]) [(0, .pointer _), (3, .slice _ _ _), (34, .slice _ _ _), (35, .int _ _), (36, .int _ _)] ⟨rfl, rfl, rfl, rfl, rfl, trivial⟩ S (fun keep ks ps f' w' => ∃ u bb, f' = upds u ((6, .bool bb) :: keep) ∧ (bb = true ↔ l.getD n.b.toNat false = false ∨ mo = true) ∧ St w0 w' (exOf [some hb, kn, kk]) ks [(ps.getD 0 fun _ => True), boolR B.length B.length (l.set n.b.toNat true), (ps.getD 2 fun _ => True), (ps.getD 3 fun _ => True), (ps.getD 4 fun _ => True)]) ?_ ?_
                      · refine s_plain ?_
                        refine p_val (e_move (v := .slice _ _ _) rfl) rfl ?_
                        refine p_val (e_field rfl Try.underlying40 rfl sz3 (by decide)) rfl ?_
                        refine p_val (e_loadF1 (i := 2) (off := 2) rfl ag3 S (j := 0) rfl rfl rfl (by first | with_reducible assumption | (rw [bv_length]; with_reducible assumption) | (rw [List.size_toArray, bv_length]; with_reducible assumption) | (simp [cat]; done) | (simp [cat]; omega) | rfl)) rfl ?_
                        refine p_does (d_call Try.func70 nm70 rfl rfl (tm_set _ _ _ _ _ _ (S.hr [1] rfl) (by omega) (by omega))) rfl ?_
                        rintro _ w ⟨rfl, T⟩
                        have S := (S.call [1] T rfl).pk [1, 0, 3, 4, 5] rfl
                        rcases Classical.em (l.getD n.b.toNat false = false) with hg85 | hg85
                        · rw [decide_eq_true hg85]
                          refine p_val (e_move (v := .bool _) rfl) rfl ?_
                          refine p_no rfl rfl rfl rfl rfl ?_
                          refine p_val (e_pick_t rfl rfl) rfl ?_
                          refine p_val (e_assign (v := .bool _) rfl) rfl ?_
                          exact p_nil (x_then ⟨_, rfl, _, _, upds_eq ⟨rfl, rfl, rfl, rfl, rfl, rfl, trivial⟩, by first | (simp only [decide_eq_true_eq, eq_self, true_iff, iff_true, iff_false, Bool.false_eq_true, false_iff, ge_iff_le, gt_iff_lt, true_and, and_true, false_and, and_false, true_or, or_true, false_or, or_false, not_true_eq_false, not_false_eq_true]; omega) | (simp; done) | omega | (simp_all; done), S⟩)
                        · rw [decide_eq_false hg85]
                          refine p_val (e_move (v := .bool _) rfl) rfl ?_
                          refine pg_val rfl rfl rfl rfl rfl (e_move (v := .bool _) rfl) ?_
                          refine p_val (e_pick_f rfl rfl) rfl ?_
                          refine p_val (e_assign (v := .bool _) rfl) rfl ?_
                          exact p_nil (x_then ⟨_, rfl, _, _, upds_eq ⟨rfl, rfl, rfl, rfl, rfl, rfl, trivial⟩, by first | (simp only [decide_eq_true_eq, eq_self, true_iff, iff_true, iff_false, Bool.false_eq_true, false_iff, ge_iff_le, gt_iff_lt, true_and, and_true, false_and, and_false, true_or, or_true, false_or, or_false, not_true_eq_false, not_false_eq_true]; omega) | (simp; done) | omega | (simp_all; done), S⟩)
                      · rintro f w ⟨u, b6, rfl, hb6, S⟩
                        refine x_in (x_in ?_)
                        exact x_then ⟨_, rfl, _, _, _, upds_eq ⟨rfl, rfl, rfl, rfl, rfl, rfl, trivial⟩, (one_step hM.wf hO hP hat0 hon (.inr hc73) (fun _ => hox.1 hc81) hb6).1, (one_step hM.wf hO hP hat0 hon (.inr hc73) (fun _ => hox.1 hc81) hb6).2, S.pk [1, 2, 3, 4] rfl⟩
                    · refine s_skip (x_in (x_in ?_))
                      exact x_then ⟨_, rfl, _, _, _, upds_eq ⟨rfl, rfl, rfl, rfl, rfl, rfl, trivial⟩, hO, idle_step hP hat0 hc48 hc64 (fun _ m => by rw [hox.2 m] at hc81; cases hc81), S.pk [1, 2, 3, 4] rfl⟩
                · refine s_skip (x_in (x_in ?_))
                  exact x_then ⟨_, rfl, _, _, _, upds_eq ⟨rfl, rfl, rfl, rfl, rfl, rfl, trivial⟩, hO, idle_step hP hat0 hc48 hc64 (fun h => absurd h hc73), S.pk [1, 2, 3, 4] rfl⟩
        · rintro f w ⟨u, l2, mo2, rfl, hO2, hP2, S⟩
          refine x_then (s_plain ?_)
          refine p_val (e_add64 rfl rfl (by omega)) rfl ?_
          refine p_val (e_move (v := .int _ _) rfl) rfl ?_
          refine p_nil ?_
          refine x_round (j + 1) _ rfl ⟨_, _, _, upds_eq ⟨rfl, rfl, rfl, rfl, rfl, rfl, trivial⟩, by first | omega | rfl | with_reducible assumption | (simp; done) | (simp; omega), hO2, hP2, S⟩ (by omega)
      · refine s_exit (x_then_exit (x_then_exit (x_in_same (x_in ?_))))
        refine x_round (2 * cntF l + (if mo = true then 1 else 0)) _ rfl ⟨_, _, _, upds_eq ⟨rfl, rfl, rfl, trivial⟩, rfl, hO, (fun e i hi => (hP.1 e).2 i (by omega)), S⟩ (by rw [hg2]; exact pass_less hP)
    · refine s_exit (x_then_exit (x_then_exit (x_in_same (x_then (s_seq (s_plain ?_))))))
      refine p_val (e_move (v := .slice _ _ _) rfl) rfl ?_
      refine p_val (e_assign (v := .slice _ _ _) rfl) rfl ?_
      refine p_nil (x_then (s_ret ?_))
      exact post1 (v := .slice _ _ _) Try.results51 rfl (by subst hc29; exact ⟨_, _, _, rfl, hO0.1, fun i => open_done hO0 (hC rfl) i, S⟩)
end Go.Proofs.Ytcgcjklpilbndaa

/- What can be said, what is learnt, walked. It proves no statement by itself. -/
set_option linter.unusedSimpArgs false
set_option linter.unusedVariables false
set_option maxRecDepth 100000
set_option maxHeartbeats 2000000
namespace Go.Proofs.Ytcgcjklpilbndaa
open Go Go.RowKit E
attribute [local irreducible] wpList seqH treeH
theorem can_iff {B B' : List Nd} {K : List Nat} {t : List Nd} {o p : List Bool} (hB : B' = bankR B t) (ht : tRight t) (ho : ∀ i, On o i ↔ Has B' K i) (hp : ∀ i, i < B'.length → (On p i ↔ Mk B' (On o) i)) : p.getD (tid B t) false = true ↔ canP B K t := by
  unfold bankR at hB
  rw [if_pos ht] at hB
  subst hB
  have e := hp (tid B t) (tid_lt ht)
  refine Iff.trans e ?_
  unfold canP
  constructor
  · intro m; exact ⟨ht, m.mono (List.prefix_refl _) fun i hi => (ho i).1 hi⟩
  · intro m; exact m.2.mono (List.prefix_refl _) fun i hi => (ho i).2 hi
theorem nv_append (K : List Nat) (x : Nat) : nv K ++ iv [(x : Int)] = nv (K ++ [x]) := by simp [nv, iv]
theorem md_can (w0 : World) (hb : Nat) (kn mk kk : Option Nat) (c ck : Nat) (B : List Nd) (K : List Nat) (A : Option Addr) (c0 : Nat) (t : List Nd) (S0 : St w0 w0 (exOf [some hb, kn, mk, kk]) [some hb, kn, mk, kk] [mindE kn mk kk B.length c K.length ck, nodeR B.length c B, Mp ndV B, intR K.length ck K]) (hM : Mind B K) (hl : B.length ≤ 90000) (hkl : K.length ≤ 1000000) (R : Rd w0 3 A t.length (ndv t)) (oR : Off A t.length (exOf [some hb, kn, mk, kk])) :
    Ret Try.prog 15 [.pointer (some ⟨hb, 0, none⟩), .slice A t.length c0] w0 fun v w' => ∃ kn' c' mk' B', v = .bool (decide (canP B K t)) ∧ B' = bankR B t ∧ St w0 w' (exOf [some hb, kn, mk, kk]) [some hb, kn', mk', kk] [mindE kn' mk' kk (List.length B') c' K.length ck, nodeR (List.length B') c' B', Mp ndV B', intR K.length ck K] := by
  refine enter Try.func15 rfl Try.ntmps15 (Nat.le_of_ble_eq_true rfl) ?_
  have S := S0
  refine s_seq (s_plain ?_)
  refine p_val (e_assign (v := .bool _) rfl) rfl ?_
  refine p_nil (x_then (s_seq (s_seq (s_plain ?_))))
  refine p_val (e_move (v := .pointer _) rfl) rfl ?_
  refine p_val (e_eqlP rfl rfl Try.underlying27) rfl ?_
  refine p_nil (x_then ?_)
  refine s_condb rfl (fun hc8 => ?_) (fun hc8 => ?_)
  · exact False.elim (by simp at hc8)
  · refine s_skip (x_then (s_seq (s_plain ?_)))
    refine p_val (e_move (v := .pointer _) rfl) rfl ?_
    refine p_val (e_nil rfl rfl) rfl ?_
    refine p_val (e_field rfl Try.underlying33 rfl sz30 (by decide)) rfl ?_
    refine p_val (e_move (v := .slice _ _ _) rfl) rfl ?_
    refine p_does (d_call Try.func29 nm29 rfl rfl (bk_intoR _ _ _ _ _ _ _ _ _ _ _ (S.hr [0, 1, 2] rfl) (by omega) (S.rdOff R oR) (S.offOld [0, 1, 2] R (by decide) oR rfl))) rfl ?_
    rintro _ w ⟨k14, c14, m14, i14, e14, B14, rfl, hy14, hn14, hB14, T⟩
    have S := (S.call [0, 1, 2] T rfl).pk [0, 1, 2, 6] rfl
    have hM1 := hM.into t
    rw [← hB14] at hM1
    have hbl : B14.length ≤ B.length + 64 := by rw [hB14]; exact bankR_len B t
    refine p_val (e_move (v := .tuple _) rfl) rfl ?_
    refine p_val (e_extract rfl rfl) rfl ?_
    refine p_val (e_extract rfl rfl) rfl ?_
    refine p_val (e_assign (v := .int _ _) rfl) rfl ?_
    refine p_val (e_assign (v := .int _ _) rfl) rfl ?_
    refine p_nil (x_then (s_seq ?_))
    refine s_cutK (ks := [some hb, k14, m14, kk]) (ps := [Ex _ _, Rw _ _ _ _ _, Mp _ _, Rw _ _ _ _ _]) [] trivial S (fun keep ks ps f' w' => ∃ u bb, f' = upds u ((4, .bool bb) :: keep) ∧ (bb = true ↔ canP B K t) ∧ St w0 w' (exOf [some hb, kn, mk, kk]) ks ps) ?_ ?_
    · refine s_plain ?_
      refine p_val (e_move (v := .int _ _) rfl) rfl ?_
      refine p_valB (e_eql rfl rfl) rfl (fun hg18 => ?_) (fun hg18 => ?_)
      · have ht : tRight t := Classical.not_not.1 fun h => by have := (hn14 h).2; omega
        have hi := (hy14 ht).1
        subst hi
        have hlt : tid B t < B14.length := by { rw [hB14]; unfold bankR; rw [if_pos ht]; exact tid_lt ht }
        refine p_val (e_move (v := .bool _) rfl) rfl ?_
        refine pg_val rfl rfl rfl rfl rfl (e_move (v := .pointer _) rfl) ?_
        refine pg_val rfl rfl rfl rfl rfl (e_move (v := .pointer _) rfl) ?_
        refine pg_does rfl rfl rfl rfl rfl (d_call Try.func51 nm51 rfl rfl (md_open _ _ _ _ _ _ _ B14 K (S.hr [0, 1, 3] rfl) hM1 (by omega) hkl)) ?_
        rintro _ w ⟨k22, c22, o22, rfl, ho22, hm22, T⟩
        have S := (S.call [0, 1, 3] T rfl).pk [0, 1, 2, 6, 3] rfl
        refine pg_does rfl rfl rfl rfl rfl (d_call Try.func50 nm50 rfl rfl (md_make _ _ _ _ _ _ _ _ B14 _ _ o22 (S.hr [1, 2] rfl) hM1.wf (by omega) ho22 (S.rdRw 0 rfl rfl) (S.offRow 0 [1, 2] rfl rfl))) ?_
        rintro _ w ⟨k23, c23, o23, rfl, ho23, hm23, T⟩
        have S := (S.call [1, 2] T rfl).pk [0, 3, 1, 2, 6, 7] rfl
        refine pg_val rfl rfl rfl rfl rfl (e_move (v := .int _ _) rfl) ?_
        refine pg_val rfl rfl rfl rfl rfl (e_ixR (S.rdRw 0 rfl rfl) (by decide) rfl rfl Try.underlying105 sz4 (by omega)) ?_
        refine pg_val rfl rfl rfl rfl rfl (e_loadR1i (v := .bool (o23.getD (tid B t) false)) rfl ag4 (S.rdRw 0 rfl rfl) (bbv_get (by omega))) ?_
        refine p_val (e_pick_t rfl rfl) rfl ?_
        refine p_val (e_assign (v := .bool _) rfl) rfl ?_
        exact p_nil (x_then ⟨_, rfl, _, _, upds_eq ⟨rfl, trivial⟩, can_iff hB14 ht hm22 hm23, S.pk [2, 3, 4, 5] rfl⟩)
      · have ht : ¬ tRight t := fun h => hg18 (hy14 h).2
        refine p_val (e_move (v := .bool _) rfl) rfl ?_
        refine p_no rfl rfl rfl rfl rfl ?_
        refine p_no rfl rfl rfl rfl rfl ?_
        refine p_no rfl rfl rfl rfl rfl ?_
        refine p_no rfl rfl rfl rfl rfl ?_
        refine p_no rfl rfl rfl rfl rfl ?_
        refine p_no rfl rfl rfl rfl rfl ?_
        refine p_no rfl rfl rfl rfl rfl ?_
        refine p_val (e_pick_f rfl rfl) rfl ?_
        refine p_val (e_assign (v := .bool _) rfl) rfl ?_
        exact p_nil (x_then ⟨_, rfl, _, _, upds_eq ⟨rfl, trivial⟩, ⟨(fun h => by cases h), (fun h => absurd h.1 ht)⟩, S⟩)
    · rintro f w ⟨u, b4, rfl, hb4, S⟩
      refine x_then (s_ret ?_)
      exact post1 (v := .bool _) Try.results15 rfl (by rw [show b4 = decide (canP B K t) from by rw [Bool.eq_iff_iff, hb4, decide_eq_true_eq]]; exact ⟨_, _, _, _, rfl, hB14, S⟩)
theorem md_can_nil (w0 : World) (A : Option Addr) (n0 c0 : Nat) :
    Ret Try.prog 15 [.pointer none, .slice A n0 c0] w0 fun v w' => v = .bool false ∧ Below w0.heap.size w0 w' := by
  refine enter Try.func15 rfl Try.ntmps15 (Nat.le_of_ble_eq_true rfl) ?_
  have S := St.init w0
  refine s_seq (s_plain ?_)
  refine p_val (e_assign (v := .bool _) rfl) rfl ?_
  refine p_nil (x_then (s_seq (s_seq (s_plain ?_))))
  refine p_val (e_move (v := .pointer _) rfl) rfl ?_
  refine p_val (e_eqlP rfl rfl Try.underlying27) rfl ?_
  refine p_nil (x_then ?_)
  refine s_condb rfl (fun hc8 => ?_) (fun hc8 => ?_)
  · refine s_seq (s_plain ?_)
    refine p_val (e_assign (v := .bool _) rfl) rfl ?_
    refine p_nil (x_then (s_ret (x_then_ret ?_)))
    exact post1 (v := .bool _) Try.results15 rfl (⟨rfl, S.to_below⟩)
  · exact False.elim (by simp at hc8)
theorem md_knows_nil (w0 : World) :
    Ret Try.prog 30 [.pointer none] w0 fun v w' => v = .int .i64 0 ∧ Below w0.heap.size w0 w' := by
  refine enter Try.func30 rfl Try.ntmps30 (Nat.le_of_ble_eq_true rfl) ?_
  have S := St.init w0
  refine s_seq (s_plain ?_)
  refine p_val (e_assign (v := .int _ _) rfl) rfl ?_
  refine p_nil (x_then (s_seq (s_seq (s_plain ?_))))
  refine p_val (e_move (v := .pointer _) rfl) rfl ?_
  refine p_val (e_eqlP rfl rfl Try.underlying27) rfl ?_
  refine p_nil (x_then ?_)
  refine s_condb rfl (fun hc7 => ?_) (fun hc7 => ?_)
  · refine s_seq (s_plain ?_)
    refine p_val (e_assign (v := .int _ _) rfl) rfl ?_
    refine p_nil (x_then (s_ret (x_then_ret ?_)))
    exact post1 (v := .int _ _) Try.results30 rfl (⟨rfl, S.to_below⟩)
  · exact False.elim (by simp at hc7)
theorem md_learn_nil (w0 : World) (A : Option Addr) (n0 c0 : Nat) :
    Ret Try.prog 14 [.pointer none, .slice A n0 c0] w0 fun v w' => v = .int .i64 1 ∧ Below w0.heap.size w0 w' := by
  refine enter Try.func14 rfl Try.ntmps14 (Nat.le_of_ble_eq_true rfl) ?_
  have S := St.init w0
  refine s_seq (s_plain ?_)
  refine p_val (e_assign (v := .int _ _) rfl) rfl ?_
  refine p_nil (x_then (s_seq (s_seq (s_plain ?_))))
  refine p_val (e_move (v := .pointer _) rfl) rfl ?_
  refine p_val (e_eqlP rfl rfl Try.underlying27) rfl ?_
  refine p_nil (x_then ?_)
  refine s_condb rfl (fun hc10 => ?_) (fun hc10 => ?_)
  · refine s_seq (s_plain ?_)
    refine p_val (e_assign (v := .int _ _) rfl) rfl ?_
    refine p_nil (x_then (s_ret (x_then_ret ?_)))
    exact post1 (v := .int _ _) Try.results14 rfl (⟨rfl, S.to_below⟩)
  · exact False.elim (by simp at hc10)
theorem md_learn (w0 : World) (hb : Nat) (kn mk kk : Option Nat) (c ck : Nat) (B : List Nd) (K : List Nat) (A A2 : Option Addr) (c1 c2 : Nat) (t : List Nd) (S0 : St w0 w0 (exOf [some hb, kn, mk, kk]) [some hb, kn, mk, kk] [mindE kn mk kk B.length c K.length ck, nodeR B.length c B, Mp ndV B, intR K.length ck K]) (hl : B.length ≤ 90000) (hkl : K.length ≤ 1000000) (R : Rd w0 1 A 1 [.slice A2 t.length c2]) (oR : Off A 1 (exOf [some hb, kn, mk, kk])) (R2 : Rd w0 3 A2 t.length (ndv t)) (oR2 : Off A2 t.length (exOf [some hb, kn, mk, kk])) :
    Ret Try.prog 14 [.pointer (some ⟨hb, 0, none⟩), .slice A 1 c1] w0 fun v w' => ∃ kn' c' mk' kk' ck' B' K' e, v = .int .i64 e ∧ (e = 0 ↔ tRight t) ∧ B' = bankR B t ∧ K' = knowR B K t ∧ St w0 w' (exOf [some hb, kn, mk, kk]) [some hb, kn', mk', kk'] [mindE kn' mk' kk' (List.length B') c' (List.length K') ck', nodeR (List.length B') c' B', Mp ndV B', intR (List.length K') ck' K'] := by
  refine enter Try.func14 rfl Try.ntmps14 (Nat.le_of_ble_eq_true rfl) ?_
  have S := S0
  refine s_seq (s_plain ?_)
  refine p_val (e_assign (v := .int _ _) rfl) rfl ?_
  refine p_nil (x_then (s_seq (s_seq (s_plain ?_))))
  refine p_val (e_move (v := .pointer _) rfl) rfl ?_
  refine p_val (e_eqlP rfl rfl Try.underlying27) rfl ?_
  refine p_nil (x_then ?_)
  refine s_condb rfl (fun hc10 => ?_) (fun hc10 => ?_)
  · exact False.elim (by simp at hc10)
  · refine s_skip (x_then (s_seq (s_seq (s_plain ?_))))
    refine p_val (e_move (v := .slice _ _ _) rfl) rfl ?_
    refine p_val (e_len rfl Try.underlying22) rfl ?_
    refine p_val (e_move (v := .int _ _) rfl) rfl ?_
    refine p_nil (x_then (s_block ?_))
    refine s_times 2 ?_
    refine w_succ ?_
    refine s_seq (s_plain ?_)
    refine p_val (e_lss rfl rfl) rfl ?_
    refine p_nil (x_then (s_seq ?_))
    refine s_cond rfl (fun hc14 => ?_) (fun hc14 => ?_)
    · refine s_skip (x_then (s_seq (s_block (s_seq (s_plain ?_)))))
      refine p_val (e_ixR (S.rdOff R oR) (by decide) rfl rfl Try.underlying22 sz24 (by omega)) rfl ?_
      refine p_val (e_loadR1i rfl ag24 (S.rdOff R oR) (rfl)) rfl ?_
      refine p_val (e_assign (v := .slice _ _ _) rfl) rfl ?_
      refine p_nil (x_then (s_seq (s_plain ?_)))
      refine p_val (e_move (v := .pointer _) rfl) rfl ?_
      refine p_val (e_nil rfl rfl) rfl ?_
      refine p_val (e_field rfl Try.underlying33 rfl sz30 (by decide)) rfl ?_
      refine p_val (e_move (v := .slice _ _ _) rfl) rfl ?_
      refine p_does (d_call Try.func29 nm29 rfl rfl (bk_intoR _ _ _ _ _ _ _ _ _ _ _ (S.hr [0, 1, 2] rfl) (by omega) (S.rdOff R2 oR2) (S.offOld [0, 1, 2] R2 (by decide) oR2 rfl))) rfl ?_
      rintro _ w ⟨k22, c22, m22, i22, e22, B22, rfl, hy22, hn22, hB22, T⟩
      have S := (S.call [0, 1, 2] T rfl).pk [0, 1, 2, 6] rfl
      refine p_val (e_move (v := .tuple _) rfl) rfl ?_
      refine p_val (e_extract rfl rfl) rfl ?_
      refine p_val (e_extract rfl rfl) rfl ?_
      refine p_val (e_assign (v := .int _ _) rfl) rfl ?_
      refine p_val (e_assign (v := .int _ _) rfl) rfl ?_
      refine p_nil (x_then (s_seq (s_seq (s_plain ?_))))
      refine p_val (e_move (v := .int _ _) rfl) rfl ?_
      refine p_val (e_neq rfl rfl) rfl ?_
      refine p_nil (x_then ?_)
      refine s_cond rfl (fun hc26 => ?_) (fun hc26 => ?_)
      · have ht : ¬ tRight t := fun h => hc26 (hy22 h).2
        have hK : knowR B K t = K := if_neg ht
        refine s_seq (s_plain ?_)
        refine p_val (e_move (v := .int _ _) rfl) rfl ?_
        refine p_val (e_assign (v := .int _ _) rfl) rfl ?_
        refine p_nil (x_then (s_ret (x_then_ret (x_in_ret (x_then_ret (x_then_ret (x_in_ret (x_then_ret ?_))))))))
        exact post1 (v := .int _ _) Try.results14 rfl (by rw [← hB22, hK]; exact ⟨_, _, _, _, _, _, _, _, rfl, ⟨fun h => absurd h hc26, fun h => absurd h ht⟩, rfl, rfl, S.pk [0, 1, 2, 3] rfl⟩)
      · have ht : tRight t := Classical.not_not.1 fun h => by have := (hn22 h).2; omega
        have hi := (hy22 ht).1
        subst hi
        have hK : knowR B K t = K ++ [tid B t] := if_pos ht
        refine s_skip (x_then (s_plain ?_))
        refine p_val (e_move (v := .pointer _) rfl) rfl ?_
        refine p_val (e_move (v := .pointer _) rfl) rfl ?_
        refine p_val (e_nil rfl rfl) rfl ?_
        refine p_val (e_field rfl Try.underlying33 rfl sz31 (by decide)) rfl ?_
        refine p_val (e_loadF1 (i := 2) (off := 2) rfl ag31 S (j := 0) rfl rfl rfl (by first | with_reducible assumption | (rw [bv_length]; with_reducible assumption) | (rw [List.size_toArray, bv_length]; with_reducible assumption) | (simp [cat]; done) | (simp [cat]; omega) | rfl)) rfl ?_
        refine p_val (e_move (v := .int _ _) rfl) rfl ?_
        refine p_does (d_litI S Try.underlying31 sz3 zv3 rfl (l := [_]) rfl rfl (by decide)) rfl ?_
        rintro _ w ⟨b34, rfl, S⟩
        refine p_does (d_append S 4 rfl rfl Try.underlying31 el3 rfl rfl (S.rdRw 0 rfl rfl) (by first | exact bv_one _ | exact sv_one _ | exact iv_one _ | with_reducible assumption | (refine One.mem ?_; repeat (first | exact One.bv _ | exact One.sv _ | exact One.iv _ | exact One.nil | exact One.cat0 | refine One.cat1 ?_ ?_ | refine One.cons rfl ?_ | refine One.append ?_ ?_))) (by first | omega | (simp only [List.length_append, List.length_cons, List.length_nil, bv_length]; omega) | (simp [cat]; omega)) (by unfold maxLen; first | omega | (simp only [List.length_append, List.length_cons, List.length_nil, bv_length]; omega))) rfl ?_
        rintro _ w ⟨k35, c35, rfl, S⟩
        refine p_val (e_nil rfl rfl) rfl ?_
        refine p_val (e_field rfl Try.underlying33 rfl sz31 (by decide)) rfl ?_
        refine p_does (d_storeF1 (v := .slice _ _ _) (off := 2) S 1 2 rfl rfl rfl sz31 rfl rfl rfl (by first | with_reducible assumption | (rw [bv_length]; with_reducible assumption) | (rw [List.size_toArray, bv_length]; with_reducible assumption) | (simp [cat]; done) | (simp [cat]; omega) | rfl)) rfl ?_
        intro _ w S
        refine p_nil (x_in (x_then (s_plain ?_)))
        refine p_val (e_add64 rfl rfl (by omega)) rfl ?_
        refine p_val (e_move (v := .int _ _) rfl) rfl ?_
        refine p_nil ?_
        refine x_times ?_
        refine w_succ ?_
        refine s_seq (s_plain ?_)
        refine p_val (e_lss rfl rfl) rfl ?_
        refine p_nil (x_then (s_seq ?_))
        refine s_cond rfl (fun hc14 => ?_) (fun hc14 => ?_)
        · exact False.elim (by omega)
        · refine s_exit (x_then_exit (x_then_exit (x_in_same (x_then (s_seq (s_plain ?_))))))
          refine p_val (e_assign (v := .int _ _) rfl) rfl ?_
          refine p_nil (x_then (s_ret ?_))
          exact post1 (v := .int _ _) Try.results14 rfl (by rw [nv_append] at S; rw [← hB22, hK]; exact ⟨_, _, _, _, _, _, K ++ [tid B t], _, rfl, ⟨fun _ => ht, fun _ => rfl⟩, rfl, rfl, by { rw [List.length_append]; exact S.pk [1, 2, 3, 4] rfl }⟩)
    · exact False.elim (by omega)
end Go.Proofs.Ytcgcjklpilbndaa

/- Chapter 37's example. It proves no statement by itself. -/
set_option linter.unusedSimpArgs false
set_option linter.unusedVariables false
set_option maxRecDepth 100000
set_option maxHeartbeats 2000000
namespace Go.Proofs.Ytcgcjklpilbndaa
open Go Go.RowKit E
attribute [local irreducible] wpList seqH treeH
theorem tOf_ok {n : Int} (h : 0 ≤ n ∧ n ≤ 1048576) : ∀ i, i < (tOf n).length → ndOk i ((tOf n).getD i nd0) := by
  intro i hi
  rw [tOf_len] at hi
  obtain rfl : i = 0 := by omega
  rw [tOf_get]
  exact .inl ⟨rfl, h.1, h.2, rfl⟩
theorem tOf_right {n : Int} (h : 0 ≤ n ∧ n ≤ 1048576) : tRight (tOf n) := ⟨by rw [tOf_len]; decide, by rw [tOf_len]; decide, tOf_ok h⟩
def aJ : List Nd := [⟨1, 5, 0⟩, ⟨1, 7, 0⟩, ⟨5, 0, 1⟩]
theorem aJ_eq : tJoin 5 (tOf 5) (tOf 7) = aJ := by unfold tOf; rfl
theorem aJ_right : tRight aJ := by decide
theorem aJ_bank : bankR [] aJ = aJ := by decide
theorem aJ_know : knowR [] [] aJ = [2] := by decide
theorem aJ_7 : bankR aJ (tOf 7) = aJ := by unfold tOf; decide
theorem aJ_5 : bankR aJ (tOf 5) = aJ := by unfold tOf; decide
theorem aJ_k5 : knowR aJ [2] (tOf 5) = [2, 0] := by unfold tOf; decide
theorem aJ_t7 : tid aJ (tOf 7) = 1 := by unfold tOf; decide
theorem aJ_b7 : bank aJ (tOf 7) = aJ := by unfold tOf; decide
theorem aJ_no : ¬ canP aJ [2] (tOf 7) := by
  rintro ⟨_, m⟩
  rw [aJ_b7, aJ_t7] at m
  have key : ∀ i, Has aJ [2] i → i = 2 := fun i h => h (fun i => i = 2) ⟨by simp, fun i n hi hn => by
    subst hi
    obtain rfl : n = ⟨5, 0, 1⟩ := by simpa [aJ] using hn.symm
    refine ⟨fun h => by simp at h, fun h => by simp at h, fun _ m => ?_⟩
    cases m with
    | of hi => simp at hi
    | hash hn' hk _ => simp [aJ] at hn'; subst hn'; simp at hk
    | node hn' h1 _ _ _ => simp [aJ] at hn'; subst hn'; simp at h1⟩
  cases m with
  | of hi => have := key _ hi; omega
  | hash hn' hk _ => simp [aJ] at hn'; subst hn'; simp at hk
  | node hn' h1 _ _ _ => simp [aJ] at hn'; subst hn'; simp at h1
theorem aJ_yes : canP aJ [2, 0] (tOf 7) := by
  refine ⟨tOf_right (by decide), ?_⟩
  rw [aJ_b7, aJ_t7]
  refine .of fun H hH => ?_
  exact (hH.2 2 ⟨5, 0, 1⟩ (hH.1 2 (by simp)) rfl).2.2 rfl (.of (hH.1 0 (by simp)))
theorem l37awake (w0 : World) :
    Ret Try.prog 13 [] w0 fun v w' => v = .bool true ∧ Below w0.heap.size w0 w' := by
  refine enter Try.func13 rfl Try.ntmps13 (Nat.le_of_ble_eq_true rfl) ?_
  have S := St.init w0
  have t5 := tOf_len 5
  have t7 := tOf_len 7
  refine s_seq (s_plain ?_)
  refine p_val (e_assign (v := .bool _) rfl) rfl ?_
  refine p_nil (x_then (s_seq (s_plain ?_)))
  refine p_val (e_buildS0 bt33) rfl ?_
  refine p_does (d_boxA S rfl) rfl ?_
  rintro _ w ⟨b4, rfl, S⟩
  have S := S.addNil 40 3
  have S := S.addNone (Mp ndV []) Mp.nil
  have S := S.addNil 3 1
  refine p_val (e_assign (v := .pointer _) rfl) rfl ?_
  refine p_nil (x_then (s_seq (s_plain ?_)))
  refine p_val (e_move (v := .pointer _) rfl) rfl ?_
  refine p_does (d_call Try.func18 nm18 rfl rfl (tm_of _ _)) rfl ?_
  rintro _ w ⟨k6, c6, rfl, T⟩
  have S := S.merge T rfl
  refine p_does (d_call Try.func18 nm18 rfl rfl (tm_of _ _)) rfl ?_
  rintro _ w ⟨k7, c7, rfl, T⟩
  have S := S.merge T rfl
  refine p_does (d_call Try.func16 nm16 rfl rfl (tm_join _ _ _ _ _ _ (tOf 5) (tOf 7) (S.rdRw 1 rfl rfl) (S.rdRw 0 rfl rfl) (by omega) (by omega) (tOf_ok (by decide)))) rfl ?_
  rintro _ w ⟨k8, c8, rfl, T⟩
  have S := S.merge T rfl
  refine p_does (d_lit1 S Try.underlying22 sz24 zv24 rfl (vs := [.slice _ _ _]) rfl rfl rfl (by decide)) rfl ?_
  rintro _ w ⟨b9, rfl, S⟩
  refine p_does (d_call Try.func14 nm14 rfl rfl (md_learn _ _ _ _ _ _ _ [] [] _ _ _ _ _ (S.hr [7, 6, 5, 4] rfl) (by decide) (by decide) (S.rdRw 0 rfl rfl) (S.offRow 0 [7, 6, 5, 4] rfl rfl) (S.rdRw 1 rfl rfl) (S.offRow 1 [7, 6, 5, 4] rfl rfl))) rfl ?_
  rintro _ w ⟨k10, c10, m10, j10, g10, B10, K10, e10, rfl, he10, hB10, hK10, T⟩
  have S := (S.call [7, 6, 5, 4] T rfl).pk [4, 5, 6, 7, 3, 2, 1, 0] rfl
  rw [aJ_eq] at hB10 hK10
  rw [aJ_bank] at hB10
  rw [aJ_know] at hK10
  subst hB10 hK10
  have hM1 : Mind aJ [2] := by have h := Mind.nil.learn aJ; rw [aJ_bank, aJ_know] at h; exact h
  refine p_nil (x_then (s_seq (s_plain ?_)))
  refine p_val (e_move (v := .pointer _) rfl) rfl ?_
  refine p_does (d_call Try.func18 nm18 rfl rfl (tm_of _ _)) rfl ?_
  rintro _ w ⟨k12, c12, rfl, T⟩
  have S := S.merge T rfl
  refine p_does (d_call Try.func15 nm15 rfl rfl (md_can _ _ _ _ _ _ _ aJ [2] _ _ _ (S.hr [8, 7, 6, 5] rfl) hM1 (by decide) (by decide) (S.rdRw 0 rfl rfl) (S.offRow 0 [8, 7, 6, 5] rfl rfl))) rfl ?_
  rintro _ w ⟨k13, c13, m13, B13, rfl, hB13, T⟩
  have S := (S.call [8, 7, 6, 5] T rfl).pk [4, 5, 6, 7, 8, 3, 2, 1, 0] rfl
  rw [aJ_7] at hB13
  subst hB13
  refine p_val (e_assign (v := .bool _) rfl) rfl ?_
  refine p_nil (x_then (s_seq (s_plain ?_)))
  refine p_val (e_move (v := .pointer _) rfl) rfl ?_
  refine p_does (d_call Try.func18 nm18 rfl rfl (tm_of _ _)) rfl ?_
  rintro _ w ⟨k15, c15, rfl, T⟩
  have S := S.merge T rfl
  refine p_does (d_lit1 S Try.underlying22 sz24 zv24 rfl (vs := [.slice _ _ _]) rfl rfl rfl (by decide)) rfl ?_
  rintro _ w ⟨b16, rfl, S⟩
  refine p_does (d_call Try.func14 nm14 rfl rfl (md_learn _ _ _ _ _ _ _ aJ [2] _ _ _ _ _ (S.hr [10, 9, 8, 7] rfl) (by decide) (by decide) (S.rdRw 0 rfl rfl) (S.offRow 0 [10, 9, 8, 7] rfl rfl) (S.rdRw 1 rfl rfl) (S.offRow 1 [10, 9, 8, 7] rfl rfl))) rfl ?_
  rintro _ w ⟨k17, c17, m17, j17, g17, B17, K17, e17, rfl, he17, hB17, hK17, T⟩
  have S := (S.call [10, 9, 8, 7] T rfl).pk [4, 5, 6, 7, 8, 9, 10, 3, 2, 1, 0] rfl
  rw [aJ_5] at hB17
  rw [aJ_k5] at hK17
  subst hB17 hK17
  have hM2 : Mind aJ [2, 0] := by have h := hM1.learn (tOf 5); rw [aJ_5, aJ_k5] at h; exact h
  refine p_nil (x_then (s_seq ?_))
  refine s_cutK (ks := [some b16, k15, k12, some b9, k8, k7, k6, j17, m17, k17, some b4]) (ps := [Rw _ _ _ _ _, Rw _ _ _ _ _, Rw _ _ _ _ _, Rw _ _ _ _ _, Rw _ _ _ _ _, Rw _ _ _ _ _, Rw _ _ _ _ _, Rw _ _ _ _ _, Mp _ _, Rw _ _ _ _ _, Ex _ _]) [] trivial S (fun keep ks ps f' w' => ∃ u bb, f' = upds u ((0, .bool bb) :: keep) ∧ (bb = true ↔ True) ∧ St w0 w' [] [] []) ?_ ?_
  · refine s_plain ?_
    rcases Classical.em (canP aJ [2] (tOf 7)) with hg18 | hg18
    · exact False.elim (aJ_no hg18)
    · rw [decide_eq_false hg18]
      refine p_val (e_move (v := .bool _) rfl) rfl ?_
      refine p_val (e_not rfl) rfl ?_
      refine p_val (e_move (v := .bool _) rfl) rfl ?_
      refine pg_val rfl rfl rfl rfl rfl (e_move (v := .pointer _) rfl) ?_
      refine pg_does rfl rfl rfl rfl rfl (d_call Try.func18 nm18 rfl rfl (tm_of _ _)) ?_
      rintro _ w ⟨k22, c22, rfl, T⟩
      have S := S.merge T rfl
      refine pg_does rfl rfl rfl rfl rfl (d_call Try.func15 nm15 rfl rfl (md_can _ _ _ _ _ _ _ aJ [2, 0] _ _ _ (S.hr [11, 10, 9, 8] rfl) hM2 (by decide) (by decide) (S.rdRw 0 rfl rfl) (S.offRow 0 [11, 10, 9, 8] rfl rfl))) ?_
      rintro _ w ⟨k23, c23, m23, B23, rfl, hB23, T⟩
      have S := (S.call [11, 10, 9, 8] T rfl).pk [4, 5, 6, 7, 8, 9, 10, 11, 3, 2, 1, 0] rfl
      rcases Classical.em (canP aJ [2, 0] (tOf 7)) with hg23 | hg23
      · rw [decide_eq_true hg23]
        refine p_val (e_pick_t rfl rfl) rfl ?_
        refine p_val (e_move (v := .bool _) rfl) rfl ?_
        refine p_val (e_pick_t rfl rfl) rfl ?_
        refine p_val (e_move (v := .bool _) rfl) rfl ?_
        refine p_val (e_pick_t rfl rfl) rfl ?_
        refine p_val (e_move (v := .bool _) rfl) rfl ?_
        refine p_val (e_pick_t rfl rfl) rfl ?_
        refine p_val (e_move (v := .bool _) rfl) rfl ?_
        refine p_val (e_pick_t rfl rfl) rfl ?_
        refine p_val (e_move (v := .bool _) rfl) rfl ?_
        refine p_val (e_pick_t rfl rfl) rfl ?_
        refine p_val (e_move (v := .bool _) rfl) rfl ?_
        refine p_val (e_pick_t rfl rfl) rfl ?_
        refine p_val (e_assign (v := .bool _) rfl) rfl ?_
        exact p_nil (x_then ⟨_, rfl, _, _, upds_eq ⟨rfl, trivial⟩, by first | (simp only [decide_eq_true_eq, eq_self, true_iff, iff_true, iff_false, Bool.false_eq_true, false_iff, ge_iff_le, gt_iff_lt, true_and, and_true, false_and, and_false, true_or, or_true, false_or, or_false, not_true_eq_false, not_false_eq_true]; omega) | (simp; done) | omega | (simp_all; done), S.none_⟩)
      · exact False.elim (hg23 aJ_yes)
  · rintro f w ⟨u, b0, rfl, hb0, S⟩
    refine x_then (s_ret ?_)
    exact post1 (v := .bool _) Try.results13 rfl (by rw [hb0.2 trivial]; exact ⟨rfl, S.to_below⟩)
end Go.Proofs.Ytcgcjklpilbndaa

/- Terms joined; what nobody can say: plain laws. It proves no statement by itself. -/
set_option linter.unusedSimpArgs false
set_option linter.unusedVariables false
namespace Go.Proofs.Ytcgcjklpilbndaa
open Go Go.RowKit E
theorem getD_app_l {α : Type} {a b : List α} {i : Nat} (d : α) (h : i < a.length) : (a ++ b).getD i d = a.getD i d := by
  rw [List.getD_eq_getElem?_getD, List.getElem?_append_left h, ← List.getD_eq_getElem?_getD]
theorem getD_app_r {α : Type} {a b : List α} {i : Nat} (d : α) (h : a.length ≤ i) : (a ++ b).getD i d = b.getD (i - a.length) d := by
  rw [List.getD_eq_getElem?_getD, List.getElem?_append_right h, ← List.getD_eq_getElem?_getD]
theorem getD_map_ {α β : Type} {a : List α} {f : α → β} {i : Nat} (d : α) (e : β) (h : i < a.length) : (a.map f).getD i e = f (a.getD i d) := by
  rw [List.getD_eq_getElem?_getD, List.getElem?_map, List.getElem?_eq_getElem h, List.getD_eq_getElem?_getD, List.getElem?_eq_getElem h]; rfl
theorem shift_ok {m i : Nat} {n : Nd} (h : ndOk i n) : ndOk (m + i) (shift (m : Int) n) := by
  unfold ndOk at h ⊢
  unfold shift
  rcases h with ⟨h1, h2⟩ | ⟨h3, ha, hb, hc⟩ | ⟨hk, ha, hb, hc, hd⟩
  · rw [if_pos h1]; exact .inl ⟨h1, h2⟩
  · rw [if_neg (by omega), if_pos h3]; exact .inr (.inl ⟨h3, by show 0 ≤ n.a + (m : Int); omega, by show n.a + (m : Int) < ((m + i : Nat) : Int); omega, hc⟩)
  · rw [if_neg (by omega), if_neg (by omega)]
    exact .inr (.inr ⟨hk, by show 0 ≤ n.a + (m : Int); omega, by show n.a + (m : Int) < ((m + i : Nat) : Int); omega, by show 0 ≤ n.b + (m : Int); omega, by show n.b + (m : Int) < ((m + i : Nat) : Int); omega⟩)
/-- a term's nodes behind another term's -/
abbrev two (a b : List Nd) : List Nd := a ++ b.map (shift a.length)
theorem two_ok {a b : List Nd} (ha : tRight a) (hb : tRight b) : ∀ i, i < (two a b).length → ndOk i ((two a b).getD i nd0) := by
  intro i hi
  by_cases h : i < a.length
  · rw [getD_app_l nd0 h]; exact ha.2.2 i h
  · rw [getD_app_r nd0 (by omega)]
    have hi2 : i - a.length < b.length := by simp at hi; omega
    rw [getD_map_ nd0 nd0 hi2]
    have := shift_ok (m := a.length) (hb.2.2 (i - a.length) hi2)
    rwa [show a.length + (i - a.length) = i by omega] at this
theorem tJoin_right {k : Int} {a b : List Nd} (ha : tRight a) (hb : tRight b) (la : a.length ≤ 20) (lb : b.length ≤ 20) (hk : k = 3 ∨ k = 2 ∨ k = 4 ∨ k = 5) : tRight (tJoin k a b) := by
  have h1 := ha.1
  have h2 := hb.1
  by_cases h3 : k = 3
  · rw [join_hash h3]
    refine ⟨by simp, by simp; omega, fun i hi => ?_⟩
    simp at hi
    by_cases h : i < a.length
    · rw [getD_app_l nd0 h]; exact ha.2.2 i h
    · obtain rfl : i = a.length := by omega
      rw [getD_app_r nd0 (Nat.le_refl _)]
      simp only [Nat.sub_self]
      exact .inr (.inl ⟨rfl, by show (0 : Int) ≤ (a.length : Int) - 1; omega, by show (a.length : Int) - 1 < (a.length : Int); omega, rfl⟩)
  · rw [join_two h3]
    refine ⟨by simp; omega, by simp; omega, fun i hi => ?_⟩
    by_cases h : i < (two a b).length
    · rw [getD_app_l nd0 h]; exact two_ok ha hb i h
    · have hl : (two a b).length = a.length + b.length := by simp
      have hh : i < a.length + b.length + 1 := by simpa [Nat.add_assoc] using hi
      have hi' : i = a.length + b.length := by omega
      subst hi'
      rw [getD_app_r nd0 (Nat.le_of_eq hl), show a.length + b.length - (two a b).length = 0 by omega]
      refine .inr (.inr ⟨by show k = 2 ∨ k = 4 ∨ k = 5; omega, ?_, ?_, ?_, ?_⟩)
      · show (0 : Int) ≤ (a.length : Int) - 1; omega
      · show (a.length : Int) - 1 < ((a.length + b.length : Nat) : Int); omega
      · show (0 : Int) ≤ (a.length : Int) + b.length - 1; omega
      · show (a.length : Int) + b.length - 1 < ((a.length + b.length : Nat) : Int); omega
theorem into_front (B t s : List Nd) : ∀ g, g ≤ t.length → into B (t ++ s) g = into B t g
  | 0, _ => rfl
  | g + 1, hg => by
    rw [into, into, into_front B t s g (by omega), getD_app_l nd0 (by omega)]
theorem rep_two {B a b : List Nd} {ia ib : List Nat} (hra : Rep B a ia) (hrb : Rep B b ib) (ha : tRight a) (hb : tRight b) : Rep B (two a b) (ia ++ ib) := by
  refine ⟨by simp [hra.1, hrb.1], fun i hi => ?_⟩
  by_cases h : i < a.length
  · rw [getD_app_l nd0 h, getD_app (by rw [hra.1]; exact h), hra.2 i h]
    congr 1
    exact (ndMap_pre (ha.2.2 i h) fun j hj => getD_app (by rw [hra.1]; omega)).symm
  · have hi2 : i - a.length < b.length := by simp at hi; omega
    rw [getD_app_r nd0 (by omega), getD_map_ nd0 nd0 hi2, getD_app_r 0 (by rw [hra.1]; omega), hra.1, hrb.2 _ hi2]
    congr 1
    have hn := hb.2.2 _ hi2
    obtain ⟨n, he⟩ : ∃ n, n = b.getD (i - a.length) nd0 := ⟨_, rfl⟩
    rw [← he] at hn ⊢
    have key : ∀ x : Int, 0 ≤ x → (ia ++ ib).getD (x + (a.length : Int)).toNat 0 = ib.getD x.toNat 0 := fun x hx => by
      rw [getD_app_r 0 (by rw [hra.1]; omega), hra.1]
      congr 1
      omega
    unfold ndMap shift
    rcases hn with ⟨h1, _⟩ | ⟨h3, ha0, _, _⟩ | ⟨hk, ha0, _, hb0, _⟩
    · rw [if_pos h1, if_pos h1, if_pos h1]
    · have h1 : ¬ n.k = 1 := by omega
      simp only [if_neg h1, if_pos h3, key n.a ha0]
    · have h1 : ¬ n.k = 1 := by omega
      have h3 : ¬ n.k = 3 := by omega
      simp only [if_neg h1, if_neg h3, key n.a ha0, key n.b hb0]
theorem getD_last {α : Type} {a : List α} {x d : α} : (a ++ [x]).getD a.length d = x := by rw [getD_app_r d (Nat.le_refl _)]; simp
/-- two of one term: where the whole stands -/
theorem join_at {B a b : List Nd} {ia ib : List Nat} {k : Int} (hd : B.Nodup) (hra : Rep B a ia) (hrb : Rep B b ib) (ha : tRight a) (hb : tRight b) (h1 : ¬ k = 1) (h3 : ¬ k = 3) :
    ∃ n : Nd, n = ⟨k, (ia.getD (a.length - 1) 0 : Nat), (ib.getD (b.length - 1) 0 : Nat)⟩ ∧ (bank B (tJoin k a b))[tid B (tJoin k a b)]? = some n := by
  have e1 := ha.1
  have e2 := hb.1
  have hr := rep_two hra hrb ha hb
  have hl : (two a b).length = a.length + b.length := by simp
  have ht := into_there hd hr (two_ok ha hb) (two a b).length (Nat.le_refl _)
  rw [List.take_of_length_le (by rw [hr.1]; exact Nat.le_refl _)] at ht
  have hj : tJoin k a b = two a b ++ [⟨k, (a.length : Int) - 1, (a.length : Int) + b.length - 1⟩] := join_two h3
  have hjl : (tJoin k a b).length = (two a b).length + 1 := by rw [hj, List.length_append]; rfl
  obtain ⟨m, hm⟩ : ∃ m, m = ndMap (ia ++ ib) ⟨k, (a.length : Int) - 1, (a.length : Int) + b.length - 1⟩ := ⟨_, rfl⟩
  have hi : into B (tJoin k a b) (tJoin k a b).length = (bPut B m, (ia ++ ib) ++ [(bPut B m).idxOf m]) := by
    rw [hjl, into, hj, into_front B (two a b) _ _ (Nat.le_refl _), ht, getD_last, hm]
  refine ⟨m, ?_, ?_⟩
  · rw [hm]
    unfold ndMap
    rw [if_neg h1, if_neg h3]
    show (⟨k, (((ia ++ ib).getD ((a.length : Int) - 1).toNat 0 : Nat) : Int), (((ia ++ ib).getD ((a.length : Int) + b.length - 1).toNat 0 : Nat) : Int)⟩ : Nd) = _
    rw [show ((a.length : Int) - 1).toNat = a.length - 1 by omega, show ((a.length : Int) + b.length - 1).toNat = a.length + (b.length - 1) by omega, getD_app (by rw [hra.1]; omega), getD_app_r 0 (by rw [hra.1]; omega), hra.1, show a.length + (b.length - 1) - a.length = b.length - 1 by omega]
  · unfold bank tid
    rw [hi, hjl]
    show (bPut B m)[((ia ++ ib) ++ [(bPut B m).idxOf m]).getD ((two a b).length + 1 - 1) 0]? = some m
    have hq : (ia ++ ib).length = (two a b).length := hr.1
    rw [Nat.add_sub_cancel, ← hq, getD_last]
    exact idx_get (bPut_mem _ _)
theorem hash_at {B a : List Nd} {ia : List Nat} (hd : B.Nodup) (hra : Rep B a ia) (ha : tRight a) (b : List Nd) :
    ∃ n : Nd, n = ⟨3, (ia.getD (a.length - 1) 0 : Nat), 0⟩ ∧ (bank B (tJoin 3 a b))[tid B (tJoin 3 a b)]? = some n := by
  have e1 := ha.1
  have ht := into_there hd hra ha.2.2 a.length (Nat.le_refl _)
  rw [List.take_of_length_le (by rw [hra.1]; exact Nat.le_refl _)] at ht
  have hj : tJoin 3 a b = a ++ [⟨3, (a.length : Int) - 1, 0⟩] := join_hash rfl
  have hjl : (tJoin 3 a b).length = a.length + 1 := by rw [hj]; simp
  obtain ⟨m, hm⟩ : ∃ m, m = ndMap ia ⟨3, (a.length : Int) - 1, 0⟩ := ⟨_, rfl⟩
  have hi : into B (tJoin 3 a b) (tJoin 3 a b).length = (bPut B m, ia ++ [(bPut B m).idxOf m]) := by
    rw [hjl, into, hj, into_front B a _ _ (Nat.le_refl _), ht, getD_last, hm]
  refine ⟨m, ?_, ?_⟩
  · rw [hm]
    unfold ndMap
    rw [if_neg (by show ¬ (3 : Int) = 1; decide), if_pos rfl]
    show (⟨3, ((ia.getD ((a.length : Int) - 1).toNat 0 : Nat) : Int), 0⟩ : Nd) = _
    rw [show ((a.length : Int) - 1).toNat = a.length - 1 by omega]
  · unfold bank tid
    rw [hi, hjl]
    show (bPut B m)[(ia ++ [(bPut B m).idxOf m]).getD (a.length + 1 - 1) 0]? = some m
    rw [Nat.add_sub_cancel, ← hra.1, getD_last]
    exact idx_get (bPut_mem _ _)
/-- What can be said can be joined. -/
theorem can_join {B B1 B' : List Nd} {K : List Nat} {a b : List Nd} {k : Int} (h' : Mind B' K) (pa : bankR B a <+: B') (pb : bankR B1 b <+: B') (ca : canP B K a) (cb : canP B1 K b) (la : a.length ≤ 20) (lb : b.length ≤ 20) (hk : 2 ≤ k ∧ k ≤ 5) : canP B' K (tJoin k a b) := by
  obtain ⟨ha, ma⟩ := can_mono h' pa (fun _ h => h) ca
  obtain ⟨hb, mb⟩ := can_mono h' pb (fun _ h => h) cb
  have pa' : bank B a <+: B' := by unfold bankR at pa; rwa [if_pos ha] at pa
  have pb' : bank B1 b <+: B' := by unfold bankR at pb; rwa [if_pos hb] at pb
  have hra := (into_rep (B := B) ha).mono pa'
  have hrb := (into_rep (B := B1) hb).mono pb'
  have hj : tRight (tJoin k a b) := tJoin_right ha hb la lb (by omega)
  have hp : B' <+: bank B' (tJoin k a b) := into_pre B' _ _
  obtain ⟨ea, ta⟩ := tid_there h'.nd hra ha
  obtain ⟨eb, tb⟩ := tid_there h'.nd hrb hb
  rw [ea, ta] at ma
  rw [eb, tb] at mb
  have up : ∀ i, Mk B' (Has B' K) i → Mk (bank B' (tJoin k a b)) (Has (bank B' (tJoin k a b)) K) i := fun i m => m.mono hp fun j hj => hj.mono hp fun _ h => h
  refine ⟨hj, ?_⟩
  by_cases h3 : k = 3
  · subst h3
    obtain ⟨n, e, hn⟩ := hash_at h'.nd hra ha b
    refine .hash hn (by rw [e]) ?_
    rw [e]
    simpa using up _ ma
  · obtain ⟨n, e, hn⟩ := join_at (k := k) h'.nd hra hrb ha hb (by omega) h3
    refine .node hn (by rw [e]; show ¬ k = 1; omega) (by rw [e]; exact h3) ?_ ?_
    · rw [e]; simpa using up _ ma
    · rw [e]; simpa using up _ mb
/-- a name that stands nowhere -/
def NoName (key : Int) (B : List Nd) : Prop := ∀ n ∈ B, ¬ (n.k = 1 ∧ n.a = key)
theorem noName_into {key : Int} {B t : List Nd} (hB : NoName key B) (ht : ∀ i, i < t.length → ¬ ((t.getD i nd0).k = 1 ∧ (t.getD i nd0).a = key)) : ∀ g, g ≤ t.length → NoName key (into B t g).1
  | 0, _ => hB
  | g + 1, hg => by
    have ih := noName_into hB ht g (by omega)
    rw [into]
    intro n hn
    unfold bPut at hn
    split at hn
    · exact ih n hn
    · rcases List.mem_append.1 hn with hn | hn
      · exact ih n hn
      · rw [List.mem_singleton.1 hn]
        unfold ndMap
        split
        · exact ht g (by omega)
        · rename_i h1; exact fun h => h1 h.1
theorem noName_bank {key : Int} {B t : List Nd} (hB : NoName key B) (ht : ∀ i, i < t.length → ¬ ((t.getD i nd0).k = 1 ∧ (t.getD i nd0).a = key)) : NoName key (bankR B t) := by
  unfold bankR
  split
  · exact noName_into hB ht _ (Nat.le_refl _)
  · exact hB
theorem name_out {key : Int} {B B' : List Nd} (hN : NoName key B) (hp : B <+: B') {q : Nat} {n : Nd} (hq : B'[q]? = some n) (h1 : n.k = 1) (ha : n.a = key) : B.length ≤ q := by
  refine Nat.le_of_not_lt fun hlt => ?_
  have e := pre_get hp (List.getElem?_eq_getElem hlt)
  rw [hq] at e
  have := hN _ (List.getElem_mem hlt)
  cases e
  exact this ⟨h1, ha⟩
theorem name_no {key : Int} {B B' : List Nd} {K : List Nat} (hM : Mind B K) (hw : Wf B') (hN : NoName key B) (hp : B <+: B') {q : Nat} {n : Nd} (hq : B'[q]? = some n) (h1 : n.k = 1) (ha : n.a = key) : ¬ Mk B' (Has B' K) q := by
  intro m
  have hl := name_out hN hp hq h1 ha
  cases m with
  | of h => have := has_front hw hp hM.kn h; omega
  | hash hn hk _ => rw [hq] at hn; cases hn; omega
  | node hn hk _ _ _ => rw [hq] at hn; cases hn; exact hk h1
theorem no_name {key : Int} {B B1 : List Nd} {K : List Nat} (hM : Mind B K) (h1 : Mind B1 K) (hN : NoName key B) (hp : B <+: B1) (hk : 0 ≤ key ∧ key ≤ 1048576) : ¬ canP B1 K (tOf key) := by
  rintro ⟨ht, m⟩
  have hr := into_rep (B := B1) ht
  have h0 := hr.2 0 (by rw [tOf_len]; decide)
  rw [tOf_get] at h0
  have e : tid B1 (tOf key) = (into B1 (tOf key) (tOf key).length).2.getD 0 0 := by unfold tid; rw [tOf_len]
  rw [e] at m
  exact name_no hM (bank_wf h1.wf ht) hN (hp.trans (into_pre _ _ _)) h0 (by unfold ndMap; rw [if_pos rfl]) (by unfold ndMap; rw [if_pos rfl]) m
theorem no_sign {key : Int} {B : List Nd} {K : List Nat} {b : List Nd} (hM : Mind B K) (hN : NoName key B) (hk : 0 ≤ key ∧ key ≤ 1048576) (hb : tRight b) : ¬ canP B K (tJoin 4 (tOf key) b) := by
  rintro ⟨ht, m⟩
  have ha := tOf_right hk
  -- where the parts stand, behind the whole
  have hw := bank_wf hM.wf ht
  have hd : (bank B (tJoin 4 (tOf key) b)).Nodup := into_nodup hM.nd _ _
  have hr := into_rep (B := B) ht
  have hj : tJoin 4 (tOf key) b = two (tOf key) b ++ [⟨4, ((tOf key).length : Int) - 1, ((tOf key).length : Int) + b.length - 1⟩] := join_two (by decide)
  have hl1 := tOf_len key
  have hb1 := hb.1
  have hjl : (tJoin 4 (tOf key) b).length = 1 + b.length + 1 := by rw [hj]; simp [hl1]; omega
  obtain ⟨ids, hids⟩ : ∃ ids, ids = (into B (tJoin 4 (tOf key) b) (tJoin 4 (tOf key) b).length).2 := ⟨_, rfl⟩
  rw [← hids] at hr
  have h0 := hr.2 0 (by omega)
  have hlast := hr.2 ((tJoin 4 (tOf key) b).length - 1) (by omega)
  have e0 : (tJoin 4 (tOf key) b).getD 0 nd0 = ⟨1, key, 0⟩ := by
    rw [hj, getD_app_l nd0 (by simp [hl1]; omega), getD_app_l nd0 (by omega), tOf_get]
  have el : (tJoin 4 (tOf key) b).getD ((tJoin 4 (tOf key) b).length - 1) nd0 = ⟨4, 0, (b.length : Int)⟩ := by
    have hq : (two (tOf key) b).length = 1 + b.length := by simp [hl1]
    rw [hjl, hj, getD_app_r nd0 (by rw [hq]; omega), hq, show 1 + b.length + 1 - 1 - (1 + b.length) = 0 by omega, hl1]
    show (⟨4, ((1 : Nat) : Int) - 1, ((1 : Nat) : Int) + b.length - 1⟩ : Nd) = _
    congr 1
    omega
  rw [e0] at h0
  rw [el] at hlast
  have et : tid B (tJoin 4 (tOf key) b) = ids.getD ((tJoin 4 (tOf key) b).length - 1) 0 := by rw [hids]; rfl
  rw [et] at m
  have k0 : ndMap ids ⟨1, key, 0⟩ = ⟨1, key, 0⟩ := by unfold ndMap; rw [if_pos rfl]
  have kl : ndMap ids ⟨4, 0, (b.length : Int)⟩ = ⟨4, (ids.getD 0 0 : Nat), (ids.getD b.length 0 : Nat)⟩ := by unfold ndMap; rw [if_neg (by show ¬ (4 : Int) = 1; decide), if_neg (by show ¬ (4 : Int) = 3; decide)]; rfl
  rw [k0] at h0
  rw [kl] at hlast
  have hp := into_pre B (tJoin 4 (tOf key) b) (tJoin 4 (tOf key) b).length
  have hno := name_no hM hw hN hp h0 rfl rfl
  have hout := name_out hN hp h0 rfl rfl
  cases m with
  | of h =>
    have hf := has_front hw hp hM.kn h
    rcases hw _ _ hlast with h | ⟨h, _⟩ | ⟨_, _, h, _⟩
    · exact absurd h (show ¬ (4 : Int) = 1 by decide)
    · exact absurd h (show ¬ (4 : Int) = 3 by decide)
    · have h' : ((ids.getD 0 0 : Nat) : Int) < ((ids.getD ((tJoin 4 (tOf key) b).length - 1) 0 : Nat) : Int) := h
      omega
  | hash hn h3 _ => rw [hlast] at hn; cases hn; exact absurd h3 (show ¬ (4 : Int) = 3 by decide)
  | node hn _ _ mq _ => rw [hlast] at hn; cases hn; exact hno (by simpa using mq)
theorem join_len {k : Int} {a b : List Nd} (h : ¬ k = 3) : (tJoin k a b).length = a.length + b.length + 1 := by rw [join_two h, List.length_append, List.length_append, List.length_map]; rfl
theorem join_len3 {k : Int} {a b : List Nd} (h : k = 3) : (tJoin k a b).length = a.length + 1 := by rw [join_hash h]; simp
theorem join_last {k : Int} {a b : List Nd} (h : ¬ k = 3) : (tJoin k a b).getD (a.length + b.length) nd0 = ⟨k, (a.length : Int) - 1, (a.length : Int) + b.length - 1⟩ := by
  rw [join_two h, getD_app_r nd0 (by simp)]; simp
theorem join_last3 {k : Int} {a b : List Nd} (h : k = 3) : (tJoin k a b).getD a.length nd0 = ⟨3, (a.length : Int) - 1, 0⟩ := by
  rw [join_hash h, getD_last]
end Go.Proofs.Ytcgcjklpilbndaa

/- Terms as arguments. It proves no statement by itself. -/
set_option linter.unusedSimpArgs false
set_option linter.unusedVariables false
namespace Go.Proofs.Ytcgcjklpilbndaa
open Go Go.RowKit Go.WideShapes Go.ChangeShapes Go.Deep E
theorem ndL_lenT {n : Nd} (h : True) : (ndL n).length = 3 := rfl
theorem slC_lenT {α : Type} {x : Sl α} {p : Prop} (h : p) : (slC x).length = 1 := rfl
/-- a term that came in -/
def NSl (w : World) (x : Sl Nd) : Prop := x.xs.length = x.n ∧ x.n ≤ x.c ∧ x.c ≤ maxLen ∧ Rd w 3 x.A x.n (ndv x.xs)
section
variable {H : Type} {enc : TypeId × Value → H} {w : World} {base : Nat} {spare : Nat → Bool} {held : Bool}
theorem opensInt : Opens enc Try.prog w base spare held 3 (fun x : Int => [Value.int .i64 x]) (fun x => -9223372036854775808 ≤ x ∧ x ≤ 9223372036854775807) := opens_i64 Try.underlying3
theorem opensNd : Opens enc Try.prog w base spare held 40 ndL (fun _ => True) := by
  intro fuel cs y h
  obtain ⟨hcs, n, hf⟩ := trod_parts Try.underlying40 (by kernel_rfl) h
  obtain ⟨y0, g0⟩ := hf 0 _ rfl
  obtain ⟨y1, g1⟩ := hf 1 _ rfl
  obtain ⟨y2, g2⟩ := hf 2 _ rfl
  obtain ⟨a0, e0, _⟩ := opensInt _ _ _ g0
  obtain ⟨a1, e1, _⟩ := opensInt _ _ _ g1
  obtain ⟨a2, e2, _⟩ := opensInt _ _ _ g2
  exact ⟨⟨a0, a1, a2⟩, hcs.trans (congrArg List.flatten (congr (congrArg List.cons e0) (congr (congrArg List.cons e1) (congr (congrArg List.cons e2) rfl)))), trivial⟩
theorem opensTerm : Opens enc Try.prog w base spare held 24 slC (NSl w) := by
  intro fuel cs y hf
  obtain ⟨x, e0, h1, h2, h3, h4, h5⟩ := opens_slice (s := 3) Try.underlying24 (by kernel_rfl) (fun _ _ _ => opensNd) (fun _ _ => rfl) fuel cs y hf
  exact ⟨x, e0, h1, h2, h3, h5⟩
end
end Go.Proofs.Ytcgcjklpilbndaa

/- Chapter 37's law on signatures that nobody can say. It proves no statement by itself. -/
set_option linter.unusedSimpArgs false
set_option linter.unusedVariables false
set_option maxRecDepth 100000
set_option maxHeartbeats 2000000
namespace Go.Proofs.Ytcgcjklpilbndaa
open Go Go.RowKit E
attribute [local irreducible] wpList seqH treeH
abbrev slD {α : Type} : Sl α := ⟨none, 0, 0, []⟩
theorem sl_at {α : Type} : ∀ {X : List (Sl α)} {i : Nat}, i < X.length → (X.flatMap slC)[i]? = some (.slice (X.getD i slD).A (X.getD i slD).n (X.getD i slD).c)
  | a :: X, 0, _ => rfl
  | a :: X, i + 1, h => by
    have e : ((a :: X).flatMap slC) = Value.slice a.A a.n a.c :: X.flatMap slC := rfl
    rw [e, List.getElem?_cons_succ, sl_at (X := X) (by simpa using h)]
    simp
theorem getD_of {α : Type} {X : List (Sl α)} {p : Sl α → Prop} (h : ∀ y ∈ X, p y) {i : Nat} (hi : i < X.length) : p (X.getD i slD) := by
  rw [List.getD_eq_getElem?_getD, List.getElem?_eq_getElem hi]; exact h _ (List.getElem_mem hi)
theorem sl_take {α : Type} : ∀ (X : List (Sl α)) (m : Nat), (X.flatMap slC).take m = (X.take m).flatMap slC
  | [], m => by simp
  | a :: X, 0 => rfl
  | a :: X, m + 1 => by
    have e : ((a :: X).flatMap slC) = Value.slice a.A a.n a.c :: X.flatMap slC := rfl
    rw [e, List.take_succ_cons, sl_take X m]
    rfl
/-- the few first terms of those that came in -/
theorem few_terms {w0 : World} {A : Option Addr} {n0 : Nat} {X : List (Sl Nd)} (hX : X.length = n0) (hY : ∀ y ∈ X, NSl w0 y) (R : Rd w0 1 A n0 (X.flatMap slC)) :
    ∃ Z : List (Sl Nd), Z.length = min n0 8 ∧ (∀ y ∈ Z, NSl w0 y) ∧ Rd w0 1 A (min n0 8) (Z.flatMap slC) := by
  refine ⟨X.take (min n0 8), by rw [List.length_take]; omega, fun y hy => hY y (List.mem_of_mem_take hy), ?_⟩
  have h := R.take (m := min n0 8) (Nat.min_le_left _ _)
  rwa [Nat.mul_one, sl_take] at h
theorem tforges_calls (w0 : World) (key : Int) (A A2 : Option Addr) (n0 c0 c2 : Nat) (X : List (Sl Nd)) (t : List Nd) (hX : X.length = n0) (hY : ∀ y ∈ X, NSl w0 y) (R : Rd w0 1 A n0 (X.flatMap slC)) (hc : n0 ≤ c0) (R2 : Rd w0 3 A2 t.length (ndv t)) :
    Ret Try.prog 4 [.slice A n0 c0, .int .i64 key, .slice A2 t.length c2] w0 fun v w' => v = .bool true ∧ Below w0.heap.size w0 w' := by
  refine enter Try.func4 rfl Try.ntmps4 (Nat.le_of_ble_eq_true rfl) ?_
  have S := St.init w0
  obtain ⟨Z, hZ, hZ2, RZ⟩ := few_terms hX hY R
  refine s_seq (s_plain ?_)
  refine p_val (e_assign (v := .bool _) rfl) rfl ?_
  refine p_nil (x_then (s_seq (s_plain ?_)))
  refine p_val (e_move (v := .slice _ _ _) rfl) rfl ?_
  refine p_does (d_call Try.func12 nm12 rfl rfl (l37few _ _ _ _ (by omega))) rfl ?_
  rintro _ w ⟨rfl, hB⟩
  have S := S.below hB
  refine p_val (e_assign (v := .slice _ _ _) rfl) rfl ?_
  refine p_nil (x_then (s_seq (s_seq ?_)))
  refine s_cutK (ks := []) (ps := []) [(0, .slice _ _ _), (1, .int _ _), (2, .slice _ _ _)] ⟨rfl, rfl, rfl, trivial⟩ S (fun keep ks ps f' w' => ∃ u bb, f' = upds u ((27, .bool bb) :: keep) ∧ (bb = true ↔ (¬ (0 ≤ key ∧ key ≤ 1048576 ∧ t.length ≤ 20 ∧ tRight t))) ∧ St w0 w' [] ks ps) ?_ ?_
  · refine s_plain ?_
    refine p_val (e_move (v := .int _ _) rfl) rfl ?_
    refine p_valB (e_lss rfl rfl) rfl (fun hg13 => ?_) (fun hg13 => ?_)
    · refine p_val (e_move (v := .bool _) rfl) rfl ?_
      refine p_no rfl rfl rfl rfl rfl ?_
      refine p_no rfl rfl rfl rfl rfl ?_
      refine p_val (e_pick_t rfl rfl) rfl ?_
      refine p_val (e_move (v := .bool _) rfl) rfl ?_
      refine p_no rfl rfl rfl rfl rfl ?_
      refine p_no rfl rfl rfl rfl rfl ?_
      refine p_no rfl rfl rfl rfl rfl ?_
      refine p_val (e_pick_t rfl rfl) rfl ?_
      refine p_val (e_move (v := .bool _) rfl) rfl ?_
      refine p_no rfl rfl rfl rfl rfl ?_
      refine p_no rfl rfl rfl rfl rfl ?_
      refine p_no rfl rfl rfl rfl rfl ?_
      refine p_val (e_pick_t rfl rfl) rfl ?_
      exact p_nil (x_then ⟨_, rfl, _, _, upds_eq ⟨rfl, rfl, rfl, rfl, trivial⟩, by first | (constructor; intro _ h; omega; intro _; rfl) | (constructor; intro _ h; exact hg25 h.2.2.2; intro _; rfl) | (constructor; intro h; cases h; intro h; exact absurd ⟨by omega, by omega, by omega, hg25⟩ h), S⟩)
    · refine p_val (e_move (v := .bool _) rfl) rfl ?_
      refine pg_val rfl rfl rfl rfl rfl (e_move (v := .int _ _) rfl) ?_
      refine pg_valB rfl rfl rfl rfl rfl (e_gtr rfl rfl) (fun hg16 => ?_) (fun hg16 => ?_)
      · refine p_val (e_pick_f rfl rfl) rfl ?_
        refine p_val (e_move (v := .bool _) rfl) rfl ?_
        refine p_no rfl rfl rfl rfl rfl ?_
        refine p_no rfl rfl rfl rfl rfl ?_
        refine p_no rfl rfl rfl rfl rfl ?_
        refine p_val (e_pick_t rfl rfl) rfl ?_
        refine p_val (e_move (v := .bool _) rfl) rfl ?_
        refine p_no rfl rfl rfl rfl rfl ?_
        refine p_no rfl rfl rfl rfl rfl ?_
        refine p_no rfl rfl rfl rfl rfl ?_
        refine p_val (e_pick_t rfl rfl) rfl ?_
        exact p_nil (x_then ⟨_, rfl, _, _, upds_eq ⟨rfl, rfl, rfl, rfl, trivial⟩, by first | (constructor; intro _ h; omega; intro _; rfl) | (constructor; intro _ h; exact hg25 h.2.2.2; intro _; rfl) | (constructor; intro h; cases h; intro h; exact absurd ⟨by omega, by omega, by omega, hg25⟩ h), S⟩)
      · refine p_val (e_pick_f rfl rfl) rfl ?_
        refine p_val (e_move (v := .bool _) rfl) rfl ?_
        refine pg_val rfl rfl rfl rfl rfl (e_move (v := .slice _ _ _) rfl) ?_
        refine pg_val rfl rfl rfl rfl rfl (e_len rfl Try.underlying24) ?_
        refine pg_valB rfl rfl rfl rfl rfl (e_gtr rfl rfl) (fun hg21 => ?_) (fun hg21 => ?_)
        · refine p_val (e_pick_f rfl rfl) rfl ?_
          refine p_val (e_move (v := .bool _) rfl) rfl ?_
          refine p_no rfl rfl rfl rfl rfl ?_
          refine p_no rfl rfl rfl rfl rfl ?_
          refine p_no rfl rfl rfl rfl rfl ?_
          refine p_val (e_pick_t rfl rfl) rfl ?_
          exact p_nil (x_then ⟨_, rfl, _, _, upds_eq ⟨rfl, rfl, rfl, rfl, trivial⟩, by first | (constructor; intro _ h; omega; intro _; rfl) | (constructor; intro _ h; exact hg25 h.2.2.2; intro _; rfl) | (constructor; intro h; cases h; intro h; exact absurd ⟨by omega, by omega, by omega, hg25⟩ h), S⟩)
        · refine p_val (e_pick_f rfl rfl) rfl ?_
          refine p_val (e_move (v := .bool _) rfl) rfl ?_
          refine pg_val rfl rfl rfl rfl rfl (e_move (v := .slice _ _ _) rfl) ?_
          refine pg_does rfl rfl rfl rfl rfl (d_call Try.func17 nm17 rfl rfl (l37right _ _ _ _ (S.rdOld R2 rfl))) ?_
          rintro _ w ⟨rfl, hB⟩
          have S := S.below hB
          rcases Classical.em (tRight t) with hg25 | hg25
          · rw [decide_eq_true hg25]
            refine pg_val rfl rfl rfl rfl rfl (e_not rfl) ?_
            refine p_val (e_pick_f rfl rfl) rfl ?_
            exact p_nil (x_then ⟨_, rfl, _, _, upds_eq ⟨rfl, rfl, rfl, rfl, trivial⟩, by first | (constructor; intro _ h; omega; intro _; rfl) | (constructor; intro _ h; exact hg25 h.2.2.2; intro _; rfl) | (constructor; intro h; cases h; intro h; exact absurd ⟨by omega, by omega, by omega, hg25⟩ h), S⟩)
          · rw [decide_eq_false hg25]
            refine pg_val rfl rfl rfl rfl rfl (e_not rfl) ?_
            refine p_val (e_pick_f rfl rfl) rfl ?_
            exact p_nil (x_then ⟨_, rfl, _, _, upds_eq ⟨rfl, rfl, rfl, rfl, trivial⟩, by first | (constructor; intro _ h; omega; intro _; rfl) | (constructor; intro _ h; exact hg25 h.2.2.2; intro _; rfl) | (constructor; intro h; cases h; intro h; exact absurd ⟨by omega, by omega, by omega, hg25⟩ h), S⟩)
  · rintro f w ⟨u, b27, rfl, hb27, S⟩
    refine x_then ?_
    refine s_condb rfl (fun hc27 => ?_) (fun hc27 => ?_)
    · have hp27 : (¬ (0 ≤ key ∧ key ≤ 1048576 ∧ t.length ≤ 20 ∧ tRight t)) := hb27.1 hc27
      refine s_seq (s_plain ?_)
      refine p_does (d_call Try.func13 nm13 rfl rfl (l37awake _)) rfl ?_
      rintro _ w ⟨rfl, hB⟩
      have S := S.below hB
      refine p_val (e_assign (v := .bool _) rfl) rfl ?_
      refine p_nil (x_then (s_ret (x_then_ret ?_)))
      exact post1 (v := .bool _) Try.results4 rfl (⟨rfl, S.to_below⟩)
    · have hp27 : ¬ (¬ (0 ≤ key ∧ key ≤ 1048576 ∧ t.length ≤ 20 ∧ tRight t)) := fun h => by rw [hb27.2 h] at hc27; cases hc27
      obtain ⟨hk0, hk1, hl, ht⟩ := Classical.not_not.1 hp27
      refine s_skip (x_then (s_seq (s_plain ?_)))
      refine p_val (e_buildS0 bt33) rfl ?_
      refine p_does (d_boxA S rfl) rfl ?_
      rintro _ w ⟨b30, rfl, S⟩
      have S := S.addNil 40 3
      have S := S.addNone (Mp ndV []) Mp.nil
      have S := S.addNil 3 1
      refine p_val (e_assign (v := .pointer _) rfl) rfl ?_
      refine p_nil (x_then (s_seq (s_seq (s_plain ?_))))
      refine p_val (e_assign (v := .int _ _) rfl) rfl ?_
      refine p_nil (x_then (s_block ?_))
      refine s_loopK (α := Nat) (ks := [none, none, none, some b30]) (ps := [Rw _ _ _ _ _, Mp _ _, Rw _ _ _ _ _, Ex _ _]) [(0, .slice _ _ _), (1, .int _ _), (2, .slice _ _ _), (7, .pointer _)] ⟨rfl, rfl, rfl, rfl, trivial⟩ S (fun keep ks ps g f' w' => ∃ u Kp30_2 Cp30_2 Kp30_0 Cp30_0 B K mm, f' = upds u ((8, .int .i64 (g : Int)) :: keep) ∧ (g ≤ min n0 8) ∧ (Mind B K) ∧ (NoName key B) ∧ (B.length ≤ 64 * g) ∧ (K.length ≤ g) ∧ St w0 w' [] [Kp30_2, mm, Kp30_0, some b30] [Rw 3 1 (K.length) Cp30_2 (nv K), Mp ndV B, Rw 40 3 (B.length) Cp30_0 (ndv B), mindE Kp30_0 mm Kp30_2 B.length Cp30_0 K.length Cp30_2]) (fun g => min n0 8 - g) (0) (⟨_, _,  _,  _,  _,  [],  [],  _, upds_eq ⟨rfl, rfl, rfl, rfl, rfl, trivial⟩, by first | omega | rfl | with_reducible assumption | (simp; done) | (simp; omega), Mind.nil, (fun n h => by cases h), by first | omega | rfl | with_reducible assumption | (simp; done) | (simp; omega), by first | omega | rfl | with_reducible assumption | (simp; done) | (simp; omega), S⟩) ?_
      rintro g f w ⟨u, Kp30_2, Cp30_2, Kp30_0, Cp30_0, B, K, mm, rfl, hg, hM, hN, hBl, hKl, S⟩
      refine s_seq (s_seq (s_plain ?_))
      refine p_val (e_move (v := .int _ _) rfl) rfl ?_
      refine p_val (e_move (v := .slice _ _ _) rfl) rfl ?_
      refine p_val (e_len rfl Try.underlying22) rfl ?_
      refine p_val (e_lss rfl rfl) rfl ?_
      refine p_nil (x_then ?_)
      refine s_cond rfl (fun hc34 => ?_) (fun hc34 => ?_)
      · obtain ⟨y, hye⟩ : ∃ y, y = Z.getD g slD := ⟨_, rfl⟩
        have hy := getD_of hZ2 (i := g) (by omega)
        have hsl0 := sl_at (X := Z) (i := g) (by omega)
        rw [← hye] at hy hsl0
        obtain ⟨hy1, hy2, hy3, RY⟩ := hy
        rw [← hy1] at hy2 RY hsl0
        unfold maxLen at hy3
        have hsl : (Z.flatMap slC)[(g : Int).toNat]? = some (.slice y.A y.xs.length y.c) := hsl0
        refine s_skip (x_then (s_seq (s_block (s_seq (s_seq (s_plain ?_))))))
        refine p_val (e_assign (v := .int _ _) rfl) rfl ?_
        refine p_nil (x_then (s_block ?_))
        refine s_loopK (α := Nat) (ks := [Kp30_2, mm, Kp30_0, some b30]) (ps := [Rw _ _ _ _ _, Mp _ _, Rw _ _ _ _ _, Ex _ _]) [(0, .slice _ _ _), (1, .int _ _), (2, .slice _ _ _), (7, .pointer _), (8, .int _ _)] ⟨rfl, rfl, rfl, rfl, rfl, trivial⟩ S (fun keep ks ps j f' w' => ∃ u, f' = upds u ((9, .int .i64 (j : Int)) :: keep) ∧ (j ≤ y.xs.length) ∧ (∀ i, i < j → ¬ ((y.xs.getD i nd0).k = 1 ∧ (y.xs.getD i nd0).a = key)) ∧ St w0 w' [] [Kp30_2, mm, Kp30_0, some b30] [(ps.getD 0 fun _ => True), (ps.getD 1 fun _ => True), (ps.getD 2 fun _ => True), (ps.getD 3 fun _ => True)]) (fun j => y.xs.length - j) (0) (⟨_, upds_eq ⟨rfl, rfl, rfl, rfl, rfl, rfl, trivial⟩, by first | omega | rfl | with_reducible assumption | (simp; done) | (simp; omega), (fun i hi => absurd hi (Nat.not_lt_zero _)), S⟩) ?_
        rintro j f w ⟨u, rfl, hj, hno, S⟩
        refine s_seq (s_seq (s_plain ?_))
        refine p_val (e_move (v := .int _ _) rfl) rfl ?_
        refine p_val (e_move (v := .slice _ _ _) rfl) rfl ?_
        refine p_val (e_move (v := .int _ _) rfl) rfl ?_
        refine p_val (e_ixR (S.rdOld RZ rfl) (by decide) rfl rfl Try.underlying22 sz24 (by omega)) rfl ?_
        refine p_val (e_loadR1i (v := .slice y.A y.xs.length y.c) rfl ag24 (S.rdOld RZ rfl) hsl) rfl ?_
        refine p_val (e_len rfl Try.underlying24) rfl ?_
        refine p_val (e_lss rfl rfl) rfl ?_
        refine p_nil (x_then ?_)
        refine s_cond rfl (fun hc43 => ?_) (fun hc43 => ?_)
        · obtain ⟨n, hn⟩ : ∃ n, n = y.xs.getD j nd0 := ⟨_, rfl⟩
          have hat : y.xs[(j : Int).toNat]? = some n := by rw [hn]; exact getD_at nd0 (by omega)
          refine s_skip (x_then (s_seq (s_block (s_seq ?_))))
          refine s_cutK (ks := [Kp30_2, mm, Kp30_0, some b30]) (ps := [Rw _ _ _ _ _, Mp _ _, Rw _ _ _ _ _, Ex _ _]) [(0, .slice _ _ _), (1, .int _ _), (2, .slice _ _ _), (7, .pointer _), (8, .int _ _), (9, .int _ _)] ⟨rfl, rfl, rfl, rfl, rfl, rfl, trivial⟩ S (fun keep ks ps f' w' => ∃ u bb, f' = upds u ((66, .bool bb) :: keep) ∧ (bb = true ↔ (n.k = 1 ∧ n.a = key)) ∧ St w0 w' [] ks ps) ?_ ?_
          · refine s_plain ?_
            refine p_val (e_move (v := .slice _ _ _) rfl) rfl ?_
            refine p_val (e_move (v := .int _ _) rfl) rfl ?_
            refine p_val (e_ixR (S.rdOld RZ rfl) (by decide) rfl rfl Try.underlying22 sz24 (by omega)) rfl ?_
            refine p_val (e_loadR1i (v := .slice y.A y.xs.length y.c) rfl ag24 (S.rdOld RZ rfl) hsl) rfl ?_
            refine p_val (e_move (v := .int _ _) rfl) rfl ?_
            refine p_val (e_ixR (S.rdOld RY rfl) (by decide) rfl rfl Try.underlying24 sz40 (by omega)) rfl ?_
            refine p_val (e_fieldR (Rd.elemA (S.rdOld RY rfl) (fun _ _ => rfl) (hat)) (by decide) rfl Try.underlying40 rfl sz3 (by decide)) rfl ?_
            refine p_val (e_loadR1 rfl ag3 ((Rd.part1 (Rd.elemA (S.rdOld RY rfl) (fun _ _ => rfl) (hat)) 0 rfl (off := 0) (by first | with_reducible assumption | (rw [bv_length]; with_reducible assumption) | (rw [List.size_toArray, bv_length]; with_reducible assumption) | (simp [cat]; done) | (simp [cat]; omega) | rfl) (by first | with_reducible assumption | (rw [bv_length]; with_reducible assumption) | (rw [List.size_toArray, bv_length]; with_reducible assumption) | (simp [cat]; done) | (simp [cat]; omega) | rfl)))) rfl ?_
            refine p_valB (e_eql rfl rfl) rfl (fun hg54 => ?_) (fun hg54 => ?_)
            · refine p_val (e_move (v := .bool _) rfl) rfl ?_
              refine pg_val rfl rfl rfl rfl rfl (e_move (v := .slice _ _ _) rfl) ?_
              refine pg_val rfl rfl rfl rfl rfl (e_move (v := .int _ _) rfl) ?_
              refine pg_val rfl rfl rfl rfl rfl (e_ixR (S.rdOld RZ rfl) (by decide) rfl rfl Try.underlying22 sz24 (by omega)) ?_
              refine pg_val rfl rfl rfl rfl rfl (e_loadR1i (v := .slice y.A y.xs.length y.c) rfl ag24 (S.rdOld RZ rfl) hsl) ?_
              refine pg_val rfl rfl rfl rfl rfl (e_move (v := .int _ _) rfl) ?_
              refine pg_val rfl rfl rfl rfl rfl (e_ixR (S.rdOld RY rfl) (by decide) rfl rfl Try.underlying24 sz40 (by omega)) ?_
              refine pg_val rfl rfl rfl rfl rfl (e_fieldR (Rd.elemA (S.rdOld RY rfl) (fun _ _ => rfl) (hat)) (by decide) rfl Try.underlying40 rfl sz3 (by decide)) ?_
              refine pg_val rfl rfl rfl rfl rfl (e_loadR1 rfl ag3 ((Rd.part1 (Rd.elemA (S.rdOld RY rfl) (fun _ _ => rfl) (hat)) 1 rfl (off := 1) (by first | with_reducible assumption | (rw [bv_length]; with_reducible assumption) | (rw [List.size_toArray, bv_length]; with_reducible assumption) | (simp [cat]; done) | (simp [cat]; omega) | rfl) (by first | with_reducible assumption | (rw [bv_length]; with_reducible assumption) | (rw [List.size_toArray, bv_length]; with_reducible assumption) | (simp [cat]; done) | (simp [cat]; omega) | rfl)))) ?_
              refine pg_val rfl rfl rfl rfl rfl (e_move (v := .int _ _) rfl) ?_
              refine pg_val rfl rfl rfl rfl rfl (e_eql rfl rfl) ?_
              refine p_val (e_pick_t rfl rfl) rfl ?_
              exact p_nil (x_then ⟨_, rfl, _, _, upds_eq ⟨rfl, rfl, rfl, rfl, rfl, rfl, rfl, trivial⟩, by first | (simp only [decide_eq_true_eq, eq_self, true_iff, iff_true, iff_false, Bool.false_eq_true, false_iff, ge_iff_le, gt_iff_lt, true_and, and_true, false_and, and_false, true_or, or_true, false_or, or_false, not_true_eq_false, not_false_eq_true]; omega) | (simp; done) | omega | (simp_all; done), S⟩)
            · refine p_val (e_move (v := .bool _) rfl) rfl ?_
              refine p_no rfl rfl rfl rfl rfl ?_
              refine p_no rfl rfl rfl rfl rfl ?_
              refine p_no rfl rfl rfl rfl rfl ?_
              refine p_no rfl rfl rfl rfl rfl ?_
              refine p_no rfl rfl rfl rfl rfl ?_
              refine p_no rfl rfl rfl rfl rfl ?_
              refine p_no rfl rfl rfl rfl rfl ?_
              refine p_no rfl rfl rfl rfl rfl ?_
              refine p_no rfl rfl rfl rfl rfl ?_
              refine p_no rfl rfl rfl rfl rfl ?_
              refine p_val (e_pick_f rfl rfl) rfl ?_
              exact p_nil (x_then ⟨_, rfl, _, _, upds_eq ⟨rfl, rfl, rfl, rfl, rfl, rfl, rfl, trivial⟩, by first | (simp only [decide_eq_true_eq, eq_self, true_iff, iff_true, iff_false, Bool.false_eq_true, false_iff, ge_iff_le, gt_iff_lt, true_and, and_true, false_and, and_false, true_or, or_true, false_or, or_false, not_true_eq_false, not_false_eq_true]; omega) | (simp; done) | omega | (simp_all; done), S⟩)
          · rintro f w ⟨u, b66, rfl, hb66, S⟩
            refine x_then ?_
            refine s_condb rfl (fun hc66 => ?_) (fun hc66 => ?_)
            · have hp66 : (n.k = 1 ∧ n.a = key) := hb66.1 hc66
              refine s_seq (s_plain ?_)
              refine p_does (d_call Try.func13 nm13 rfl rfl (l37awake _)) rfl ?_
              rintro _ w ⟨rfl, hB⟩
              have S := S.below hB
              refine p_val (e_assign (v := .bool _) rfl) rfl ?_
              refine p_nil (x_then (s_ret (x_in_ret (x_then_ret (x_then_ret (x_in_ret (x_then_ret (x_in_ret (x_then_ret (x_then_ret (x_in_ret (x_then_ret ?_))))))))))))
              exact post1 (v := .bool _) Try.results4 rfl (⟨rfl, S.to_below⟩)
            · have hp66 : ¬ (n.k = 1 ∧ n.a = key) := fun h => by rw [hb66.2 h] at hc66; cases hc66
              refine s_skip (x_in (x_then (s_plain ?_)))
              refine p_val (e_move (v := .int _ _) rfl) rfl ?_
              refine p_val (e_add64 rfl rfl (by omega)) rfl ?_
              refine p_val (e_assign (v := .int _ _) rfl) rfl ?_
              refine p_nil ?_
              refine x_round (j + 1) _ rfl ⟨_, upds_eq ⟨rfl, rfl, rfl, rfl, rfl, rfl, trivial⟩, by first | omega | rfl | with_reducible assumption | (simp; done) | (simp; omega), (fun i hi => by { by_cases h : i < j; exact hno i h; (obtain rfl : i = j := by omega); rw [← hn]; exact hp66 }), S⟩ (by omega)
        · refine s_exit (x_then_exit (x_then_exit (x_in_same (x_then (s_plain ?_)))))
          refine p_val (e_move (v := .pointer _) rfl) rfl ?_
          refine p_val (e_move (v := .slice _ _ _) rfl) rfl ?_
          refine p_val (e_move (v := .int _ _) rfl) rfl ?_
          refine p_val (e_ixR (S.rdOld RZ rfl) (by decide) rfl rfl Try.underlying22 sz24 (by omega)) rfl ?_
          refine p_val (e_loadR1i (v := .slice y.A y.xs.length y.c) rfl ag24 (S.rdOld RZ rfl) hsl) rfl ?_
          refine p_does (d_lit1 S Try.underlying22 sz24 zv24 rfl (vs := [.slice _ _ _]) rfl rfl rfl (by decide)) rfl ?_
          rintro _ w ⟨b73, rfl, S⟩
          refine p_does (d_call Try.func14 nm14 rfl rfl (md_learn _ _ _ _ _ _ _ _ _ _ _ _ _ _ (S.hr [4, 3, 2, 1] rfl) (by omega) (by omega) (S.rdRw 0 rfl rfl) (S.offRow 0 [4, 3, 2, 1] rfl rfl) (S.rdOld RY rfl) (S.offOld [4, 3, 2, 1] RY (by decide) Off.nil rfl))) rfl ?_
          rintro _ w ⟨k74, c74, m74, j74, g74, B74, K74, e74, rfl, he74, hB74, hK74, T⟩
          have S := (S.call [4, 3, 2, 1] T rfl).pk [4, 3, 2, 1, 0] rfl
          refine p_nil (x_in (x_then (s_plain ?_)))
          refine p_val (e_move (v := .int _ _) rfl) rfl ?_
          refine p_val (e_add64 rfl rfl (by omega)) rfl ?_
          refine p_val (e_assign (v := .int _ _) rfl) rfl ?_
          refine p_nil ?_
          refine x_round (g + 1) _ rfl ⟨_, _, _, _, _, _, _, _, upds_eq ⟨rfl, rfl, rfl, rfl, rfl, trivial⟩, by first | omega | rfl | with_reducible assumption | (simp; done) | (simp; omega), by rw [hB74, hK74]; exact hM.learn y.xs, by rw [hB74]; exact noName_bank hN (fun i hi => hno i (by omega)), by have := bankR_len B y.xs; rw [← hB74] at this; omega, by rw [hK74]; unfold knowR; split; (rw [List.length_append]; simp only [List.length_cons, List.length_nil]; omega); omega, S.pk [1, 2, 3, 4] rfl⟩ (by omega)
      · refine s_exit (x_then_exit (x_then_exit (x_in_same (x_then (s_seq ?_)))))
        refine s_cutK (ks := [Kp30_2, mm, Kp30_0, some b30]) (ps := [Rw _ _ _ _ _, Mp _ _, Rw _ _ _ _ _, Ex _ _]) [] trivial S (fun keep ks ps f' w' => ∃ u bb, f' = upds u ((6, .bool bb) :: keep) ∧ (bb = true ↔ True) ∧ St w0 w' [] [] []) ?_ ?_
        · refine s_plain ?_
          have hkl := tOf_len key
          refine p_val (e_move (v := .pointer _) rfl) rfl ?_
          refine p_val (e_move (v := .int _ _) rfl) rfl ?_
          refine p_does (d_call Try.func18 nm18 rfl rfl (tm_of _ _)) rfl ?_
          rintro _ w ⟨k77, c77, rfl, T⟩
          have S := S.merge T rfl
          refine p_val (e_move (v := .slice _ _ _) rfl) rfl ?_
          refine p_does (d_call Try.func16 nm16 rfl rfl (tm_join _ _ _ _ _ _ (tOf key) t (S.rdRw 0 rfl rfl) (S.rdOld R2 rfl) (by omega) (by omega) ht.2.2)) rfl ?_
          rintro _ w ⟨k79, c79, rfl, T⟩
          have S := S.merge T rfl
          refine p_does (d_call Try.func15 nm15 rfl rfl (md_can _ _ _ _ _ _ _ B K _ _ (tJoin 4 (tOf key) t) (S.hr [5, 4, 3, 2] rfl) hM (by omega) (by omega) (S.rdRw 0 rfl rfl) (S.offRow 0 [5, 4, 3, 2] rfl rfl))) rfl ?_
          rintro _ w ⟨k80, c80, m80, B80, rfl, hB80, T⟩
          have S := (S.call [5, 4, 3, 2] T rfl).pk [4, 5, 3, 2, 1, 0] rfl
          have hM80 := hM.into (tJoin 4 (tOf key) t)
          have hp80 := bankR_pre B (tJoin 4 (tOf key) t)
          have hl80 := bankR_len B (tJoin 4 (tOf key) t)
          rw [← hB80] at hM80 hp80 hl80
          rcases Classical.em (canP B K (tJoin 4 (tOf key) t)) with hg80 | hg80
          · exact False.elim (no_sign hM hN ⟨hk0, hk1⟩ ht hg80)
          · rw [decide_eq_false hg80]
            refine p_val (e_not rfl) rfl ?_
            refine p_val (e_move (v := .bool _) rfl) rfl ?_
            refine pg_val rfl rfl rfl rfl rfl (e_move (v := .pointer _) rfl) ?_
            refine pg_val rfl rfl rfl rfl rfl (e_move (v := .int _ _) rfl) ?_
            refine pg_does rfl rfl rfl rfl rfl (d_call Try.func18 nm18 rfl rfl (tm_of _ _)) ?_
            rintro _ w ⟨k85, c85, rfl, T⟩
            have S := S.merge T rfl
            refine pg_does rfl rfl rfl rfl rfl (d_call Try.func15 nm15 rfl rfl (md_can _ _ _ _ _ _ _ B80 K _ _ (tOf key) (S.hr [6, 5, 4, 3] rfl) hM80 (by omega) (by omega) (S.rdRw 0 rfl rfl) (S.offRow 0 [6, 5, 4, 3] rfl rfl))) ?_
            rintro _ w ⟨k86, c86, m86, B86, rfl, hB86, T⟩
            have S := (S.call [6, 5, 4, 3] T rfl).pk [4, 5, 6, 3, 2, 1, 0] rfl
            rcases Classical.em (canP B80 K (tOf key)) with hg86 | hg86
            · exact False.elim (no_name hM hM80 hN hp80 ⟨hk0, hk1⟩ hg86)
            · rw [decide_eq_false hg86]
              refine pg_val rfl rfl rfl rfl rfl (e_not rfl) ?_
              refine p_val (e_pick_t rfl rfl) rfl ?_
              refine p_val (e_move (v := .bool _) rfl) rfl ?_
              refine pg_does rfl rfl rfl rfl rfl (d_call Try.func13 nm13 rfl rfl (l37awake _)) ?_
              rintro _ w ⟨rfl, hB⟩
              have S := S.below hB
              refine p_val (e_pick_t rfl rfl) rfl ?_
              refine p_val (e_assign (v := .bool _) rfl) rfl ?_
              exact p_nil (x_then ⟨_, rfl, _, _, upds_eq ⟨rfl, trivial⟩, by first | (simp only [decide_eq_true_eq, eq_self, true_iff, iff_true, iff_false, Bool.false_eq_true, false_iff, ge_iff_le, gt_iff_lt, true_and, and_true, false_and, and_false, true_or, or_true, false_or, or_false, not_true_eq_false, not_false_eq_true]; omega) | (simp; done) | omega | (simp_all; done), S.none_⟩)
        · rintro f w ⟨u, b6, rfl, hb6, S⟩
          refine x_then (s_ret ?_)
          exact post1 (v := .bool _) Try.results4 rfl (by rw [hb6.2 trivial]; exact ⟨rfl, S.to_below⟩)
theorem tforges_n (w0 : World) (key : Int) (A A2 : Option Addr) (n0 c0 n2 c2 : Nat) (X : List (Sl Nd)) (t : List Nd) (hX : X.length = n0) (hY : ∀ y ∈ X, NSl w0 y) (R : Rd w0 1 A n0 (X.flatMap slC)) (hc : n0 ≤ c0) (h2 : t.length = n2) (R2 : Rd w0 3 A2 n2 (t.flatMap ndL)) :
     Ret Try.prog 4 [.slice A n0 c0, .int .i64 key, .slice A2 n2 c2] w0 fun v w' => v = .bool true ∧ Below w0.heap.size w0 w' := by
  subst h2; exact tforges_calls w0 key A A2 n0 c0 c2 X t hX hY R hc R2
end Go.Proofs.Ytcgcjklpilbndaa

/- Chapter 37's law on who learns more. It proves no statement by itself. -/
set_option linter.unusedSimpArgs false
set_option linter.unusedVariables false
set_option maxRecDepth 100000
set_option maxHeartbeats 2000000
namespace Go.Proofs.Ytcgcjklpilbndaa
open Go Go.RowKit E
attribute [local irreducible] wpList seqH treeH
theorem tgrows_calls (w0 : World) (A A1 A2 A3 : Option Addr) (n0 c0 c1 c2 c3 : Nat) (k : Int) (X : List (Sl Nd)) (t a b : List Nd) (hX : X.length = n0) (hY : ∀ y ∈ X, NSl w0 y) (R : Rd w0 1 A n0 (X.flatMap slC)) (hc : n0 ≤ c0) (R1 : Rd w0 3 A1 t.length (ndv t)) (R2 : Rd w0 3 A2 a.length (ndv a)) (R3 : Rd w0 3 A3 b.length (ndv b)) :
    Ret Try.prog 3 [.slice A n0 c0, .slice A1 t.length c1, .slice A2 a.length c2, .slice A3 b.length c3, .int .i64 k] w0 fun v w' => v = .bool true ∧ Below w0.heap.size w0 w' := by
  refine enter Try.func3 rfl Try.ntmps3 (Nat.le_of_ble_eq_true rfl) ?_
  have S := St.init w0
  obtain ⟨Z, hZ, hZ2, RZ⟩ := few_terms hX hY R
  refine s_seq (s_plain ?_)
  refine p_val (e_assign (v := .bool _) rfl) rfl ?_
  refine p_nil (x_then (s_seq (s_plain ?_)))
  refine p_val (e_move (v := .slice _ _ _) rfl) rfl ?_
  refine p_does (d_call Try.func12 nm12 rfl rfl (l37few _ _ _ _ (by omega))) rfl ?_
  rintro _ w ⟨rfl, hB⟩
  have S := S.below hB
  refine p_val (e_assign (v := .slice _ _ _) rfl) rfl ?_
  refine p_nil (x_then (s_seq (s_seq ?_)))
  refine s_cutK (ks := []) (ps := []) [(0, .slice _ _ _), (1, .slice _ _ _), (2, .slice _ _ _), (3, .slice _ _ _), (4, .int _ _)] ⟨rfl, rfl, rfl, rfl, rfl, trivial⟩ S (fun keep ks ps f' w' => ∃ u bb, f' = upds u ((24, .bool bb) :: keep) ∧ (bb = true ↔ (((20 : Int) < ((a.length : Nat) : Int)) ∨ ((20 : Int) < ((b.length : Nat) : Int)))) ∧ St w0 w' [] ks ps) ?_ ?_
  · refine s_plain ?_
    refine p_val (e_move (v := .slice _ _ _) rfl) rfl ?_
    refine p_val (e_len rfl Try.underlying24) rfl ?_
    refine p_valB (e_gtr rfl rfl) rfl (fun hg19 => ?_) (fun hg19 => ?_)
    · refine p_val (e_move (v := .bool _) rfl) rfl ?_
      refine p_no rfl rfl rfl rfl rfl ?_
      refine p_no rfl rfl rfl rfl rfl ?_
      refine p_no rfl rfl rfl rfl rfl ?_
      refine p_val (e_pick_t rfl rfl) rfl ?_
      exact p_nil (x_then ⟨_, rfl, _, _, upds_eq ⟨rfl, rfl, rfl, rfl, rfl, rfl, trivial⟩, by first | (simp only [decide_eq_true_eq, eq_self, true_iff, iff_true, iff_false, Bool.false_eq_true, false_iff, ge_iff_le, gt_iff_lt, true_and, and_true, false_and, and_false, true_or, or_true, false_or, or_false, not_true_eq_false, not_false_eq_true]; omega) | (simp; done) | omega | (simp_all; done), S⟩)
    · refine p_val (e_move (v := .bool _) rfl) rfl ?_
      refine pg_val rfl rfl rfl rfl rfl (e_move (v := .slice _ _ _) rfl) ?_
      refine pg_val rfl rfl rfl rfl rfl (e_len rfl Try.underlying24) ?_
      refine pg_val rfl rfl rfl rfl rfl (e_gtr rfl rfl) ?_
      refine p_val (e_pick_f rfl rfl) rfl ?_
      exact p_nil (x_then ⟨_, rfl, _, _, upds_eq ⟨rfl, rfl, rfl, rfl, rfl, rfl, trivial⟩, by first | (simp only [decide_eq_true_eq, eq_self, true_iff, iff_true, iff_false, Bool.false_eq_true, false_iff, ge_iff_le, gt_iff_lt, true_and, and_true, false_and, and_false, true_or, or_true, false_or, or_false, not_true_eq_false, not_false_eq_true]; omega) | (simp; done) | omega | (simp_all; done), S⟩)
  · rintro f w ⟨u, b24, rfl, hb24, S⟩
    refine x_then ?_
    refine s_condb rfl (fun hc24 => ?_) (fun hc24 => ?_)
    · have hp24 : (((20 : Int) < ((a.length : Nat) : Int)) ∨ ((20 : Int) < ((b.length : Nat) : Int))) := hb24.1 hc24
      refine s_seq (s_plain ?_)
      refine p_does (d_call Try.func13 nm13 rfl rfl (l37awake _)) rfl ?_
      rintro _ w ⟨rfl, hB⟩
      have S := S.below hB
      refine p_val (e_assign (v := .bool _) rfl) rfl ?_
      refine p_nil (x_then (s_ret (x_then_ret ?_)))
      exact post1 (v := .bool _) Try.results3 rfl (⟨rfl, S.to_below⟩)
    · have hp24 : ¬ (((20 : Int) < ((a.length : Nat) : Int)) ∨ ((20 : Int) < ((b.length : Nat) : Int))) := fun h => by rw [hb24.2 h] at hc24; cases hc24
      refine s_skip (x_then (s_seq (s_plain ?_)))
      refine p_val (e_buildS0 bt33) rfl ?_
      refine p_does (d_boxA S rfl) rfl ?_
      rintro _ w ⟨b27, rfl, S⟩
      have S := S.addNil 40 3
      have S := S.addNone (Mp ndV []) Mp.nil
      have S := S.addNil 3 1
      refine p_val (e_assign (v := .pointer _) rfl) rfl ?_
      refine p_nil (x_then (s_seq (s_seq (s_plain ?_))))
      refine p_val (e_assign (v := .int _ _) rfl) rfl ?_
      refine p_nil (x_then (s_block ?_))
      refine s_loopK (α := Nat) (ks := [none, none, none, some b27]) (ps := [Rw _ _ _ _ _, Mp _ _, Rw _ _ _ _ _, Ex _ _]) [(0, .slice _ _ _), (1, .slice _ _ _), (2, .slice _ _ _), (3, .slice _ _ _), (4, .int _ _), (11, .pointer _)] ⟨rfl, rfl, rfl, rfl, rfl, rfl, trivial⟩ S (fun keep ks ps g f' w' => ∃ u Kp27_2 Cp27_2 Kp27_0 Cp27_0 B K mm, f' = upds u ((12, .int .i64 (g : Int)) :: keep) ∧ (g ≤ min n0 8) ∧ (Mind B K) ∧ (B.length ≤ 64 * g) ∧ (K.length ≤ g) ∧ St w0 w' [] [Kp27_2, mm, Kp27_0, some b27] [Rw 3 1 (K.length) Cp27_2 (nv K), Mp ndV B, Rw 40 3 (B.length) Cp27_0 (ndv B), mindE Kp27_0 mm Kp27_2 B.length Cp27_0 K.length Cp27_2]) (fun g => min n0 8 - g) (0) (⟨_, _,  _,  _,  _,  [],  [],  _, upds_eq ⟨rfl, rfl, rfl, rfl, rfl, rfl, rfl, trivial⟩, by first | omega | rfl | with_reducible assumption | (simp; done) | (simp; omega), Mind.nil, by first | omega | rfl | with_reducible assumption | (simp; done) | (simp; omega), by first | omega | rfl | with_reducible assumption | (simp; done) | (simp; omega), S⟩) ?_
      rintro g f w ⟨u, Kp27_2, Cp27_2, Kp27_0, Cp27_0, B, K, mm, rfl, hg, hM, hBl, hKl, S⟩
      refine s_seq (s_seq (s_plain ?_))
      refine p_val (e_move (v := .int _ _) rfl) rfl ?_
      refine p_val (e_move (v := .slice _ _ _) rfl) rfl ?_
      refine p_val (e_len rfl Try.underlying22) rfl ?_
      refine p_val (e_lss rfl rfl) rfl ?_
      refine p_nil (x_then ?_)
      refine s_cond rfl (fun hc31 => ?_) (fun hc31 => ?_)
      · obtain ⟨y, hye⟩ : ∃ y, y = Z.getD g slD := ⟨_, rfl⟩
        have hy := getD_of hZ2 (i := g) (by omega)
        have hsl0 := sl_at (X := Z) (i := g) (by omega)
        rw [← hye] at hy hsl0
        obtain ⟨hy1, hy2, hy3, RY⟩ := hy
        rw [← hy1] at hy2 RY hsl0
        have hsl : (Z.flatMap slC)[(g : Int).toNat]? = some (.slice y.A y.xs.length y.c) := hsl0
        refine s_skip (x_then (s_seq (s_block (s_plain ?_))))
        refine p_val (e_move (v := .pointer _) rfl) rfl ?_
        refine p_val (e_move (v := .slice _ _ _) rfl) rfl ?_
        refine p_val (e_move (v := .int _ _) rfl) rfl ?_
        refine p_val (e_ixR (S.rdOld RZ rfl) (by decide) rfl rfl Try.underlying22 sz24 (by omega)) rfl ?_
        refine p_val (e_loadR1i (v := .slice y.A y.xs.length y.c) rfl ag24 (S.rdOld RZ rfl) hsl) rfl ?_
        refine p_does (d_lit1 S Try.underlying22 sz24 zv24 rfl (vs := [.slice _ _ _]) rfl rfl rfl (by decide)) rfl ?_
        rintro _ w ⟨b39, rfl, S⟩
        refine p_does (d_call Try.func14 nm14 rfl rfl (md_learn _ _ _ _ _ _ _ _ _ _ _ _ _ _ (S.hr [4, 3, 2, 1] rfl) (by omega) (by omega) (S.rdRw 0 rfl rfl) (S.offRow 0 [4, 3, 2, 1] rfl rfl) (S.rdOld RY rfl) (S.offOld [4, 3, 2, 1] RY (by decide) Off.nil rfl))) rfl ?_
        rintro _ w ⟨k40, c40, m40, j40, g40, B40, K40, e40, rfl, he40, hB40, hK40, T⟩
        have S := (S.call [4, 3, 2, 1] T rfl).pk [4, 3, 2, 1, 0] rfl
        refine p_nil (x_in (x_then (s_plain ?_)))
        refine p_val (e_move (v := .int _ _) rfl) rfl ?_
        refine p_val (e_add64 rfl rfl (by omega)) rfl ?_
        refine p_val (e_assign (v := .int _ _) rfl) rfl ?_
        refine p_nil ?_
        refine x_round (g + 1) _ rfl ⟨_, _, _, _, _, _, _, _, upds_eq ⟨rfl, rfl, rfl, rfl, rfl, rfl, rfl, trivial⟩, by first | omega | rfl | with_reducible assumption | (simp; done) | (simp; omega), by rw [hB40, hK40]; exact hM.learn y.xs, by have := bankR_len B y.xs; rw [← hB40] at this; omega, by rw [hK40]; unfold knowR; split; (rw [List.length_append]; simp only [List.length_cons, List.length_nil]; omega); omega, S.pk [1, 2, 3, 4] rfl⟩ (by omega)
      · refine s_exit (x_then_exit (x_then_exit (x_in_same (x_then (s_seq (s_plain ?_))))))
        refine p_val (e_move (v := .pointer _) rfl) rfl ?_
        refine p_val (e_move (v := .slice _ _ _) rfl) rfl ?_
        refine p_does (d_call Try.func15 nm15 rfl rfl (md_can _ _ _ _ _ _ _ B K _ _ a (S.hr [3, 2, 1, 0] rfl) hM (by omega) (by omega) (S.rdOld R2 rfl) (S.offOld [3, 2, 1, 0] R2 (by decide) Off.nil rfl))) rfl ?_
        rintro _ w ⟨k43, c43, m43, B43, rfl, hB43, T⟩
        have S := (S.call [3, 2, 1, 0] T rfl).pk [3, 2, 1, 0] rfl
        have hM43 := hM.into a
        have hl43 := bankR_len B a
        rw [← hB43] at hM43 hl43
        refine p_val (e_move (v := .pointer _) rfl) rfl ?_
        refine p_val (e_move (v := .slice _ _ _) rfl) rfl ?_
        refine p_does (d_call Try.func15 nm15 rfl rfl (md_can _ _ _ _ _ _ _ B43 K _ _ b (S.hr [3, 2, 1, 0] rfl) hM43 (by omega) (by omega) (S.rdOld R3 rfl) (S.offOld [3, 2, 1, 0] R3 (by decide) Off.nil rfl))) rfl ?_
        rintro _ w ⟨k46, c46, m46, B46, rfl, hB46, T⟩
        have S := (S.call [3, 2, 1, 0] T rfl).pk [3, 2, 1, 0] rfl
        have hM46 := hM43.into b
        have hl46 := bankR_len B43 b
        have hp46 := bankR_pre B43 b
        rw [← hB46] at hM46 hl46 hp46
        have pa : bankR B a <+: B46 := by rw [← hB43]; exact hp46
        have pb : bankR B43 b <+: B46 := by rw [← hB46]; exact List.prefix_refl _
        refine p_val (e_assign (v := .bool _) rfl) rfl ?_
        refine p_val (e_assign (v := .bool _) rfl) rfl ?_
        refine p_nil (x_then (s_seq (s_seq ?_)))
        refine s_cutK (ks := [Kp27_2, m46, k46, some b27]) (ps := [Rw _ _ _ _ _, Mp _ _, Rw _ _ _ _ _, Ex _ _]) [(1, .slice _ _ _), (2, .slice _ _ _), (3, .slice _ _ _), (11, .pointer _), (13, .bool _), (14, .bool _)] ⟨rfl, rfl, rfl, rfl, rfl, rfl, trivial⟩ S (fun keep ks ps f' w' => ∃ u bb kx cx mx Bx, f' = upds u ((67, .bool bb) :: keep) ∧ (bb = true ↔ False) ∧ (B46 <+: Bx) ∧ (Mind Bx K) ∧ (Bx.length ≤ B46.length + 64) ∧ St w0 w' [] [Kp27_2, mx, kx, some b27] [intR K.length Cp27_2 K, Mp ndV Bx, nodeR Bx.length cx Bx, mindE kx mx Kp27_2 Bx.length cx K.length Cp27_2]) ?_ ?_
        · refine s_plain ?_
          rcases Classical.em (canP B K a) with hg47 | hg47
          · rw [decide_eq_true hg47]
            refine p_val (e_move (v := .bool _) rfl) rfl ?_
            refine p_val (e_move (v := .bool _) rfl) rfl ?_
            rcases Classical.em (canP B43 K b) with hg49 | hg49
            · rw [decide_eq_true hg49]
              refine pg_val rfl rfl rfl rfl rfl (e_move (v := .bool _) rfl) ?_
              refine p_val (e_pick_t rfl rfl) rfl ?_
              refine p_val (e_move (v := .bool _) rfl) rfl ?_
              refine pg_val rfl rfl rfl rfl rfl (e_move (v := .int _ _) rfl) ?_
              refine pg_valB rfl rfl rfl rfl rfl (e_geq rfl rfl) (fun hg53 => ?_) (fun hg53 => ?_)
              · refine p_val (e_pick_t rfl rfl) rfl ?_
                refine p_val (e_move (v := .bool _) rfl) rfl ?_
                refine pg_val rfl rfl rfl rfl rfl (e_move (v := .int _ _) rfl) ?_
                refine pg_valB rfl rfl rfl rfl rfl (e_leq rfl rfl) (fun hg57 => ?_) (fun hg57 => ?_)
                · refine p_val (e_pick_t rfl rfl) rfl ?_
                  refine p_val (e_move (v := .bool _) rfl) rfl ?_
                  refine pg_val rfl rfl rfl rfl rfl (e_move (v := .pointer _) rfl) ?_
                  refine pg_val rfl rfl rfl rfl rfl (e_move (v := .int _ _) rfl) ?_
                  refine pg_val rfl rfl rfl rfl rfl (e_move (v := .slice _ _ _) rfl) ?_
                  refine pg_val rfl rfl rfl rfl rfl (e_move (v := .slice _ _ _) rfl) ?_
                  refine pg_does rfl rfl rfl rfl rfl (d_call Try.func16 nm16 rfl rfl (tm_join _ _ _ _ _ _ a b (S.rdOld R2 rfl) (S.rdOld R3 rfl) (by omega) (by omega) hg49.1.2.2)) ?_
                  rintro _ w ⟨k64, c64, rfl, T⟩
                  have S := S.merge T rfl
                  refine pg_does rfl rfl rfl rfl rfl (d_call Try.func15 nm15 rfl rfl (md_can _ _ _ _ _ _ _ B46 K _ _ (tJoin k a b) (S.hr [4, 3, 2, 1] rfl) hM46 (by omega) (by omega) (S.rdRw 0 rfl rfl) (S.offRow 0 [4, 3, 2, 1] rfl rfl))) ?_
                  rintro _ w ⟨k65, c65, m65, B65, rfl, hB65, T⟩
                  have S := (S.call [4, 3, 2, 1] T rfl).pk [4, 3, 2, 1, 0] rfl
                  rcases Classical.em (canP B46 K (tJoin k a b)) with hg65 | hg65
                  · rw [decide_eq_true hg65]
                    refine pg_val rfl rfl rfl rfl rfl (e_not rfl) ?_
                    refine p_val (e_pick_t rfl rfl) rfl ?_
                    exact p_nil (x_then ⟨_, rfl, _, _, _, _, _, _, upds_eq ⟨rfl, rfl, rfl, rfl, rfl, rfl, rfl, trivial⟩, by first | (simp only [decide_eq_true_eq, eq_self, true_iff, iff_true, iff_false, Bool.false_eq_true, false_iff, ge_iff_le, gt_iff_lt, true_and, and_true, false_and, and_false, true_or, or_true, false_or, or_false, not_true_eq_false, not_false_eq_true]; omega) | (simp; done) | omega | (simp_all; done), by first | exact List.prefix_refl _ | (rw [hB65]; exact bankR_pre _ _), by first | exact hM46 | (rw [hB65]; exact hM46.into _), by first | omega | (rw [hB65]; exact bankR_len _ _), S.pk [1, 2, 3, 4] rfl⟩)
                  · exact False.elim (hg65 (can_join hM46 pa pb hg47 hg49 (by omega) (by omega) (by omega)))
                · refine p_val (e_pick_t rfl rfl) rfl ?_
                  refine p_val (e_move (v := .bool _) rfl) rfl ?_
                  refine p_no rfl rfl rfl rfl rfl ?_
                  refine p_no rfl rfl rfl rfl rfl ?_
                  refine p_no rfl rfl rfl rfl rfl ?_
                  refine p_no rfl rfl rfl rfl rfl ?_
                  refine p_no rfl rfl rfl rfl rfl ?_
                  refine p_no rfl rfl rfl rfl rfl ?_
                  refine p_no rfl rfl rfl rfl rfl ?_
                  refine p_val (e_pick_f rfl rfl) rfl ?_
                  exact p_nil (x_then ⟨_, rfl, _, _, _, _, _, _, upds_eq ⟨rfl, rfl, rfl, rfl, rfl, rfl, rfl, trivial⟩, by first | (simp only [decide_eq_true_eq, eq_self, true_iff, iff_true, iff_false, Bool.false_eq_true, false_iff, ge_iff_le, gt_iff_lt, true_and, and_true, false_and, and_false, true_or, or_true, false_or, or_false, not_true_eq_false, not_false_eq_true]; omega) | (simp; done) | omega | (simp_all; done), by first | exact List.prefix_refl _ | (rw [hB65]; exact bankR_pre _ _), by first | exact hM46 | (rw [hB65]; exact hM46.into _), by first | omega | (rw [hB65]; exact bankR_len _ _), S⟩)
              · refine p_val (e_pick_t rfl rfl) rfl ?_
                refine p_val (e_move (v := .bool _) rfl) rfl ?_
                refine p_no rfl rfl rfl rfl rfl ?_
                refine p_no rfl rfl rfl rfl rfl ?_
                refine p_val (e_pick_f rfl rfl) rfl ?_
                refine p_val (e_move (v := .bool _) rfl) rfl ?_
                refine p_no rfl rfl rfl rfl rfl ?_
                refine p_no rfl rfl rfl rfl rfl ?_
                refine p_no rfl rfl rfl rfl rfl ?_
                refine p_no rfl rfl rfl rfl rfl ?_
                refine p_no rfl rfl rfl rfl rfl ?_
                refine p_no rfl rfl rfl rfl rfl ?_
                refine p_no rfl rfl rfl rfl rfl ?_
                refine p_val (e_pick_f rfl rfl) rfl ?_
                exact p_nil (x_then ⟨_, rfl, _, _, _, _, _, _, upds_eq ⟨rfl, rfl, rfl, rfl, rfl, rfl, rfl, trivial⟩, by first | (simp only [decide_eq_true_eq, eq_self, true_iff, iff_true, iff_false, Bool.false_eq_true, false_iff, ge_iff_le, gt_iff_lt, true_and, and_true, false_and, and_false, true_or, or_true, false_or, or_false, not_true_eq_false, not_false_eq_true]; omega) | (simp; done) | omega | (simp_all; done), by first | exact List.prefix_refl _ | (rw [hB65]; exact bankR_pre _ _), by first | exact hM46 | (rw [hB65]; exact hM46.into _), by first | omega | (rw [hB65]; exact bankR_len _ _), S⟩)
            · rw [decide_eq_false hg49]
              refine pg_val rfl rfl rfl rfl rfl (e_move (v := .bool _) rfl) ?_
              refine p_val (e_pick_t rfl rfl) rfl ?_
              refine p_val (e_move (v := .bool _) rfl) rfl ?_
              refine p_no rfl rfl rfl rfl rfl ?_
              refine p_no rfl rfl rfl rfl rfl ?_
              refine p_val (e_pick_f rfl rfl) rfl ?_
              refine p_val (e_move (v := .bool _) rfl) rfl ?_
              refine p_no rfl rfl rfl rfl rfl ?_
              refine p_no rfl rfl rfl rfl rfl ?_
              refine p_val (e_pick_f rfl rfl) rfl ?_
              refine p_val (e_move (v := .bool _) rfl) rfl ?_
              refine p_no rfl rfl rfl rfl rfl ?_
              refine p_no rfl rfl rfl rfl rfl ?_
              refine p_no rfl rfl rfl rfl rfl ?_
              refine p_no rfl rfl rfl rfl rfl ?_
              refine p_no rfl rfl rfl rfl rfl ?_
              refine p_no rfl rfl rfl rfl rfl ?_
              refine p_no rfl rfl rfl rfl rfl ?_
              refine p_val (e_pick_f rfl rfl) rfl ?_
              exact p_nil (x_then ⟨_, rfl, _, _, _, _, _, _, upds_eq ⟨rfl, rfl, rfl, rfl, rfl, rfl, rfl, trivial⟩, by first | (simp only [decide_eq_true_eq, eq_self, true_iff, iff_true, iff_false, Bool.false_eq_true, false_iff, ge_iff_le, gt_iff_lt, true_and, and_true, false_and, and_false, true_or, or_true, false_or, or_false, not_true_eq_false, not_false_eq_true]; omega) | (simp; done) | omega | (simp_all; done), by first | exact List.prefix_refl _ | (rw [hB65]; exact bankR_pre _ _), by first | exact hM46 | (rw [hB65]; exact hM46.into _), by first | omega | (rw [hB65]; exact bankR_len _ _), S⟩)
          · rw [decide_eq_false hg47]
            refine p_val (e_move (v := .bool _) rfl) rfl ?_
            refine p_val (e_move (v := .bool _) rfl) rfl ?_
            refine p_no rfl rfl rfl rfl rfl ?_
            refine p_val (e_pick_f rfl rfl) rfl ?_
            refine p_val (e_move (v := .bool _) rfl) rfl ?_
            refine p_no rfl rfl rfl rfl rfl ?_
            refine p_no rfl rfl rfl rfl rfl ?_
            refine p_val (e_pick_f rfl rfl) rfl ?_
            refine p_val (e_move (v := .bool _) rfl) rfl ?_
            refine p_no rfl rfl rfl rfl rfl ?_
            refine p_no rfl rfl rfl rfl rfl ?_
            refine p_val (e_pick_f rfl rfl) rfl ?_
            refine p_val (e_move (v := .bool _) rfl) rfl ?_
            refine p_no rfl rfl rfl rfl rfl ?_
            refine p_no rfl rfl rfl rfl rfl ?_
            refine p_no rfl rfl rfl rfl rfl ?_
            refine p_no rfl rfl rfl rfl rfl ?_
            refine p_no rfl rfl rfl rfl rfl ?_
            refine p_no rfl rfl rfl rfl rfl ?_
            refine p_no rfl rfl rfl rfl rfl ?_
            refine p_val (e_pick_f rfl rfl) rfl ?_
            exact p_nil (x_then ⟨_, rfl, _, _, _, _, _, _, upds_eq ⟨rfl, rfl, rfl, rfl, rfl, rfl, rfl, trivial⟩, by first | (simp only [decide_eq_true_eq, eq_self, true_iff, iff_true, iff_false, Bool.false_eq_true, false_iff, ge_iff_le, gt_iff_lt, true_and, and_true, false_and, and_false, true_or, or_true, false_or, or_false, not_true_eq_false, not_false_eq_true]; omega) | (simp; done) | omega | (simp_all; done), by first | exact List.prefix_refl _ | (rw [hB65]; exact bankR_pre _ _), by first | exact hM46 | (rw [hB65]; exact hM46.into _), by first | omega | (rw [hB65]; exact bankR_len _ _), S⟩)
        · rintro f w ⟨u, b67, kx, cx, mx, Bx, rfl, hb67, hpx, hMx, hlx, S⟩
          refine x_then ?_
          refine s_condb rfl (fun hc67 => ?_) (fun hc67 => ?_)
          · exact False.elim ((fun (hp67 : False) => hp67) (hb67.1 hc67))
          · have hp67 : ¬ False := fun h => by rw [hb67.2 h] at hc67; cases hc67
            refine s_skip (x_then (s_seq (s_plain ?_)))
            refine p_val (e_move (v := .pointer _) rfl) rfl ?_
            refine p_val (e_move (v := .slice _ _ _) rfl) rfl ?_
            refine p_does (d_lit1 S Try.underlying22 sz24 zv24 rfl (vs := [.slice _ _ _]) rfl rfl rfl (by decide)) rfl ?_
            rintro _ w ⟨b70, rfl, S⟩
            refine p_does (d_call Try.func14 nm14 rfl rfl (md_learn _ _ _ _ _ _ _ Bx K _ _ _ _ t (S.hr [4, 3, 2, 1] rfl) (by omega) (by omega) (S.rdRw 0 rfl rfl) (S.offRow 0 [4, 3, 2, 1] rfl rfl) (S.rdOld R1 rfl) (S.offOld [4, 3, 2, 1] R1 (by decide) Off.nil rfl))) rfl ?_
            rintro _ w ⟨k71, c71, m71, j71, g71, B71, K71, e71, rfl, he71, hB71, hK71, T⟩
            have S := (S.call [4, 3, 2, 1] T rfl).pk [4, 3, 2, 1, 0] rfl
            have hM71 : Mind B71 K71 := by rw [hB71, hK71]; exact hMx.learn t
            have hp71 : Bx <+: B71 := by rw [hB71]; exact bankR_pre _ _
            have hk71 : ∀ i ∈ K, i ∈ K71 := by rw [hK71]; exact knowR_sub _ _ _
            have hl71 : B71.length ≤ Bx.length + 64 := by rw [hB71]; exact bankR_len _ _
            have hkl71 : K71.length ≤ K.length + 1 := by rw [hK71]; unfold knowR; split; (rw [List.length_append]; simp only [List.length_cons, List.length_nil]; omega); omega
            have hma : canP B K a → ∀ Bw, B71 <+: Bw → Mind Bw K71 → canP Bw K71 a := fun h Bw hp hw => can_mono hw (((pa.trans hpx).trans hp71).trans hp) hk71 h
            have hmb : canP B43 K b → ∀ Bw, B71 <+: Bw → Mind Bw K71 → canP Bw K71 b := fun h Bw hp hw => can_mono hw (((pb.trans hpx).trans hp71).trans hp) hk71 h
            have hmt : tRight t → ∀ Bw, B71 <+: Bw → Mind Bw K71 → canP Bw K71 t := fun h Bw hp hw => can_learn (B := Bx) (K := K) hw (by rw [← hB71]; exact hp) (by rw [← hK71]; exact fun _ h => h) h
            refine p_nil (x_then (s_seq ?_))
            refine s_cutK (ks := [some b70, j71, m71, k71, some b27]) (ps := [Rw _ _ _ _ _, Rw _ _ _ _ _, Mp _ _, Rw _ _ _ _ _, Ex _ _]) [] trivial S (fun keep ks ps f' w' => ∃ u bb, f' = upds u ((10, .bool bb) :: keep) ∧ (bb = true ↔ True) ∧ St w0 w' [] [] []) ?_ ?_
            · refine s_plain ?_
              rcases Classical.em (canP B K a) with hg72 | hg72
              · rw [decide_eq_true hg72]
                refine p_val (e_move (v := .bool _) rfl) rfl ?_
                refine p_val (e_not rfl) rfl ?_
                refine p_val (e_move (v := .bool _) rfl) rfl ?_
                refine pg_val rfl rfl rfl rfl rfl (e_move (v := .pointer _) rfl) ?_
                refine pg_val rfl rfl rfl rfl rfl (e_move (v := .slice _ _ _) rfl) ?_
                refine pg_does rfl rfl rfl rfl rfl (d_call Try.func15 nm15 rfl rfl (md_can _ _ _ _ _ _ _ B71 K71 _ _ a (S.hr [4, 3, 2, 1] rfl) hM71 (by omega) (by omega) (S.rdOld R2 rfl) (S.offOld [4, 3, 2, 1] R2 (by decide) Off.nil rfl))) ?_
                rintro _ w ⟨k77, c77, m77, B77, rfl, hB77, T⟩
                have S := (S.call [4, 3, 2, 1] T rfl).pk [4, 3, 2, 1, 0] rfl
                obtain ⟨Bq, hBq⟩ : ∃ Bq, Bq = B77 := ⟨_, rfl⟩
                subst hBq
                have hpq : B71 <+: Bq := by rw [hB77]; exact bankR_pre _ _
                have hMq : Mind Bq K71 := by rw [hB77]; exact hM71.into a
                have hlq : Bq.length ≤ Bx.length + 128 := by { have := bankR_len B71 a; rw [← hB77] at this; omega }
                rcases Classical.em (canP B71 K71 a) with hg77 | hg77
                · rw [decide_eq_true hg77]
                  refine p_val (e_pick_f rfl rfl) rfl ?_
                  refine p_val (e_move (v := .bool _) rfl) rfl ?_
                  rcases Classical.em (canP B43 K b) with hg80 | hg80
                  · rw [decide_eq_true hg80]
                    refine pg_val rfl rfl rfl rfl rfl (e_move (v := .bool _) rfl) ?_
                    refine pg_val rfl rfl rfl rfl rfl (e_not rfl) ?_
                    refine pg_val rfl rfl rfl rfl rfl (e_move (v := .bool _) rfl) ?_
                    refine pg_val rfl rfl rfl rfl rfl (e_move (v := .pointer _) rfl) ?_
                    refine pg_val rfl rfl rfl rfl rfl (e_move (v := .slice _ _ _) rfl) ?_
                    refine pg_does rfl rfl rfl rfl rfl (d_call Try.func15 nm15 rfl rfl (md_can _ _ _ _ _ _ _ Bq K71 _ _ b (S.hr [4, 3, 2, 1] rfl) hMq (by omega) (by omega) (S.rdOld R3 rfl) (S.offOld [4, 3, 2, 1] R3 (by decide) Off.nil rfl))) ?_
                    rintro _ w ⟨k85, c85, m85, B85, rfl, hB85, T⟩
                    have S := (S.call [4, 3, 2, 1] T rfl).pk [4, 3, 2, 1, 0] rfl
                    obtain ⟨Br, hBr⟩ : ∃ Br, Br = B85 := ⟨_, rfl⟩
                    rw [← hBr] at S hB85
                    have hpr := hpq.trans (show Bq <+: Br by rw [hB85]; exact bankR_pre _ _)
                    have hMr : Mind Br K71 := by rw [hB85]; exact hMq.into b
                    have hlr : Br.length ≤ Bx.length + 192 := by { have := bankR_len Bq b; rw [← hB85] at this; omega }
                    rcases Classical.em (canP Bq K71 b) with hg85 | hg85
                    · rw [decide_eq_true hg85]
                      refine pg_val rfl rfl rfl rfl rfl (e_pick_f rfl rfl) ?_
                      refine p_val (e_pick_t rfl rfl) rfl ?_
                      refine p_val (e_move (v := .bool _) rfl) rfl ?_
                      refine pg_val rfl rfl rfl rfl rfl (e_move (v := .slice _ _ _) rfl) ?_
                      refine pg_does rfl rfl rfl rfl rfl (d_call Try.func17 nm17 rfl rfl (l37right _ _ _ _ (S.rdOld R1 rfl))) ?_
                      rintro _ w ⟨rfl, hB⟩
                      have S := S.below hB
                      rcases Classical.em (tRight t) with hg90 | hg90
                      · rw [decide_eq_true hg90]
                        refine pg_val rfl rfl rfl rfl rfl (e_not rfl) ?_
                        refine pg_val rfl rfl rfl rfl rfl (e_move (v := .bool _) rfl) ?_
                        refine pg_val rfl rfl rfl rfl rfl (e_move (v := .pointer _) rfl) ?_
                        refine pg_val rfl rfl rfl rfl rfl (e_move (v := .slice _ _ _) rfl) ?_
                        refine pg_does rfl rfl rfl rfl rfl (d_call Try.func15 nm15 rfl rfl (md_can _ _ _ _ _ _ _ Br K71 _ _ t (S.hr [4, 3, 2, 1] rfl) hMr (by omega) (by omega) (S.rdOld R1 rfl) (S.offOld [4, 3, 2, 1] R1 (by decide) Off.nil rfl))) ?_
                        rintro _ w ⟨k95, c95, m95, B95, rfl, hB95, T⟩
                        have S := (S.call [4, 3, 2, 1] T rfl).pk [4, 3, 2, 1, 0] rfl
                        rcases Classical.em (canP Br K71 t) with hg95 | hg95
                        · rw [decide_eq_true hg95]
                          refine pg_val rfl rfl rfl rfl rfl (e_pick_f rfl rfl) ?_
                          refine p_val (e_pick_t rfl rfl) rfl ?_
                          refine p_val (e_move (v := .bool _) rfl) rfl ?_
                          refine pg_does rfl rfl rfl rfl rfl (d_call Try.func13 nm13 rfl rfl (l37awake _)) ?_
                          rintro _ w ⟨rfl, hB⟩
                          have S := S.below hB
                          refine p_val (e_pick_t rfl rfl) rfl ?_
                          refine p_val (e_assign (v := .bool _) rfl) rfl ?_
                          exact p_nil (x_then ⟨_, rfl, _, _, upds_eq ⟨rfl, trivial⟩, by first | (simp only [decide_eq_true_eq, eq_self, true_iff, iff_true, iff_false, Bool.false_eq_true, false_iff, ge_iff_le, gt_iff_lt, true_and, and_true, false_and, and_false, true_or, or_true, false_or, or_false, not_true_eq_false, not_false_eq_true]; omega) | (simp; done) | omega | (simp_all; done), S.none_⟩)
                        · exact False.elim (hg95 (hmt hg90 Br hpr hMr))
                      · rw [decide_eq_false hg90]
                        refine pg_val rfl rfl rfl rfl rfl (e_not rfl) ?_
                        refine pg_val rfl rfl rfl rfl rfl (e_move (v := .bool _) rfl) ?_
                        refine p_no rfl rfl rfl rfl rfl ?_
                        refine p_no rfl rfl rfl rfl rfl ?_
                        refine p_no rfl rfl rfl rfl rfl ?_
                        refine pg_val rfl rfl rfl rfl rfl (e_pick_t rfl rfl) ?_
                        refine p_val (e_pick_t rfl rfl) rfl ?_
                        refine p_val (e_move (v := .bool _) rfl) rfl ?_
                        refine pg_does rfl rfl rfl rfl rfl (d_call Try.func13 nm13 rfl rfl (l37awake _)) ?_
                        rintro _ w ⟨rfl, hB⟩
                        have S := S.below hB
                        refine p_val (e_pick_t rfl rfl) rfl ?_
                        refine p_val (e_assign (v := .bool _) rfl) rfl ?_
                        exact p_nil (x_then ⟨_, rfl, _, _, upds_eq ⟨rfl, trivial⟩, by first | (simp only [decide_eq_true_eq, eq_self, true_iff, iff_true, iff_false, Bool.false_eq_true, false_iff, ge_iff_le, gt_iff_lt, true_and, and_true, false_and, and_false, true_or, or_true, false_or, or_false, not_true_eq_false, not_false_eq_true]; omega) | (simp; done) | omega | (simp_all; done), S.none_⟩)
                    · exact False.elim (hg85 (hmb hg80 Bq hpq hMq))
                  · rw [decide_eq_false hg80]
                    obtain ⟨Br, hBr⟩ : ∃ Br, Br = Bq := ⟨_, rfl⟩
                    have hpr := hpq.trans (show Bq <+: Br by rw [hBr]; exact List.prefix_refl _)
                    have hMr : Mind Br K71 := by rw [hBr]; exact hMq
                    rw [← hBr] at S
                    have hlr : Br.length ≤ Bx.length + 192 := by rw [hBr]; omega
                    refine pg_val rfl rfl rfl rfl rfl (e_move (v := .bool _) rfl) ?_
                    refine pg_val rfl rfl rfl rfl rfl (e_not rfl) ?_
                    refine pg_val rfl rfl rfl rfl rfl (e_move (v := .bool _) rfl) ?_
                    refine p_no rfl rfl rfl rfl rfl ?_
                    refine p_no rfl rfl rfl rfl rfl ?_
                    refine p_no rfl rfl rfl rfl rfl ?_
                    refine pg_val rfl rfl rfl rfl rfl (e_pick_t rfl rfl) ?_
                    refine p_val (e_pick_t rfl rfl) rfl ?_
                    refine p_val (e_move (v := .bool _) rfl) rfl ?_
                    refine pg_val rfl rfl rfl rfl rfl (e_move (v := .slice _ _ _) rfl) ?_
                    refine pg_does rfl rfl rfl rfl rfl (d_call Try.func17 nm17 rfl rfl (l37right _ _ _ _ (S.rdOld R1 rfl))) ?_
                    rintro _ w ⟨rfl, hB⟩
                    have S := S.below hB
                    rcases Classical.em (tRight t) with hg90 | hg90
                    · rw [decide_eq_true hg90]
                      refine pg_val rfl rfl rfl rfl rfl (e_not rfl) ?_
                      refine pg_val rfl rfl rfl rfl rfl (e_move (v := .bool _) rfl) ?_
                      refine pg_val rfl rfl rfl rfl rfl (e_move (v := .pointer _) rfl) ?_
                      refine pg_val rfl rfl rfl rfl rfl (e_move (v := .slice _ _ _) rfl) ?_
                      refine pg_does rfl rfl rfl rfl rfl (d_call Try.func15 nm15 rfl rfl (md_can _ _ _ _ _ _ _ Br K71 _ _ t (S.hr [4, 3, 2, 1] rfl) hMr (by omega) (by omega) (S.rdOld R1 rfl) (S.offOld [4, 3, 2, 1] R1 (by decide) Off.nil rfl))) ?_
                      rintro _ w ⟨k95, c95, m95, B95, rfl, hB95, T⟩
                      have S := (S.call [4, 3, 2, 1] T rfl).pk [4, 3, 2, 1, 0] rfl
                      rcases Classical.em (canP Br K71 t) with hg95 | hg95
                      · rw [decide_eq_true hg95]
                        refine pg_val rfl rfl rfl rfl rfl (e_pick_f rfl rfl) ?_
                        refine p_val (e_pick_t rfl rfl) rfl ?_
                        refine p_val (e_move (v := .bool _) rfl) rfl ?_
                        refine pg_does rfl rfl rfl rfl rfl (d_call Try.func13 nm13 rfl rfl (l37awake _)) ?_
                        rintro _ w ⟨rfl, hB⟩
                        have S := S.below hB
                        refine p_val (e_pick_t rfl rfl) rfl ?_
                        refine p_val (e_assign (v := .bool _) rfl) rfl ?_
                        exact p_nil (x_then ⟨_, rfl, _, _, upds_eq ⟨rfl, trivial⟩, by first | (simp only [decide_eq_true_eq, eq_self, true_iff, iff_true, iff_false, Bool.false_eq_true, false_iff, ge_iff_le, gt_iff_lt, true_and, and_true, false_and, and_false, true_or, or_true, false_or, or_false, not_true_eq_false, not_false_eq_true]; omega) | (simp; done) | omega | (simp_all; done), S.none_⟩)
                      · exact False.elim (hg95 (hmt hg90 Br hpr hMr))
                    · rw [decide_eq_false hg90]
                      refine pg_val rfl rfl rfl rfl rfl (e_not rfl) ?_
                      refine pg_val rfl rfl rfl rfl rfl (e_move (v := .bool _) rfl) ?_
                      refine p_no rfl rfl rfl rfl rfl ?_
                      refine p_no rfl rfl rfl rfl rfl ?_
                      refine p_no rfl rfl rfl rfl rfl ?_
                      refine pg_val rfl rfl rfl rfl rfl (e_pick_t rfl rfl) ?_
                      refine p_val (e_pick_t rfl rfl) rfl ?_
                      refine p_val (e_move (v := .bool _) rfl) rfl ?_
                      refine pg_does rfl rfl rfl rfl rfl (d_call Try.func13 nm13 rfl rfl (l37awake _)) ?_
                      rintro _ w ⟨rfl, hB⟩
                      have S := S.below hB
                      refine p_val (e_pick_t rfl rfl) rfl ?_
                      refine p_val (e_assign (v := .bool _) rfl) rfl ?_
                      exact p_nil (x_then ⟨_, rfl, _, _, upds_eq ⟨rfl, trivial⟩, by first | (simp only [decide_eq_true_eq, eq_self, true_iff, iff_true, iff_false, Bool.false_eq_true, false_iff, ge_iff_le, gt_iff_lt, true_and, and_true, false_and, and_false, true_or, or_true, false_or, or_false, not_true_eq_false, not_false_eq_true]; omega) | (simp; done) | omega | (simp_all; done), S.none_⟩)
                · exact False.elim (hg77 (hma hg72 B71 (List.prefix_refl _) hM71))
              · rw [decide_eq_false hg72]
                obtain ⟨Bq, hBq⟩ : ∃ Bq, Bq = B71 := ⟨_, rfl⟩
                subst hBq
                have hpq : Bq <+: Bq := List.prefix_refl _
                have hMq := hM71
                have hlq : Bq.length ≤ Bx.length + 128 := by omega
                refine p_val (e_move (v := .bool _) rfl) rfl ?_
                refine p_val (e_not rfl) rfl ?_
                refine p_val (e_move (v := .bool _) rfl) rfl ?_
                refine p_no rfl rfl rfl rfl rfl ?_
                refine p_no rfl rfl rfl rfl rfl ?_
                refine p_no rfl rfl rfl rfl rfl ?_
                refine p_val (e_pick_t rfl rfl) rfl ?_
                refine p_val (e_move (v := .bool _) rfl) rfl ?_
                rcases Classical.em (canP B43 K b) with hg80 | hg80
                · rw [decide_eq_true hg80]
                  refine pg_val rfl rfl rfl rfl rfl (e_move (v := .bool _) rfl) ?_
                  refine pg_val rfl rfl rfl rfl rfl (e_not rfl) ?_
                  refine pg_val rfl rfl rfl rfl rfl (e_move (v := .bool _) rfl) ?_
                  refine pg_val rfl rfl rfl rfl rfl (e_move (v := .pointer _) rfl) ?_
                  refine pg_val rfl rfl rfl rfl rfl (e_move (v := .slice _ _ _) rfl) ?_
                  refine pg_does rfl rfl rfl rfl rfl (d_call Try.func15 nm15 rfl rfl (md_can _ _ _ _ _ _ _ Bq K71 _ _ b (S.hr [4, 3, 2, 1] rfl) hMq (by omega) (by omega) (S.rdOld R3 rfl) (S.offOld [4, 3, 2, 1] R3 (by decide) Off.nil rfl))) ?_
                  rintro _ w ⟨k85, c85, m85, B85, rfl, hB85, T⟩
                  have S := (S.call [4, 3, 2, 1] T rfl).pk [4, 3, 2, 1, 0] rfl
                  obtain ⟨Br, hBr⟩ : ∃ Br, Br = B85 := ⟨_, rfl⟩
                  rw [← hBr] at S hB85
                  have hpr := hpq.trans (show Bq <+: Br by rw [hB85]; exact bankR_pre _ _)
                  have hMr : Mind Br K71 := by rw [hB85]; exact hMq.into b
                  have hlr : Br.length ≤ Bx.length + 192 := by { have := bankR_len Bq b; rw [← hB85] at this; omega }
                  rcases Classical.em (canP Bq K71 b) with hg85 | hg85
                  · rw [decide_eq_true hg85]
                    refine pg_val rfl rfl rfl rfl rfl (e_pick_f rfl rfl) ?_
                    refine p_val (e_pick_t rfl rfl) rfl ?_
                    refine p_val (e_move (v := .bool _) rfl) rfl ?_
                    refine pg_val rfl rfl rfl rfl rfl (e_move (v := .slice _ _ _) rfl) ?_
                    refine pg_does rfl rfl rfl rfl rfl (d_call Try.func17 nm17 rfl rfl (l37right _ _ _ _ (S.rdOld R1 rfl))) ?_
                    rintro _ w ⟨rfl, hB⟩
                    have S := S.below hB
                    rcases Classical.em (tRight t) with hg90 | hg90
                    · rw [decide_eq_true hg90]
                      refine pg_val rfl rfl rfl rfl rfl (e_not rfl) ?_
                      refine pg_val rfl rfl rfl rfl rfl (e_move (v := .bool _) rfl) ?_
                      refine pg_val rfl rfl rfl rfl rfl (e_move (v := .pointer _) rfl) ?_
                      refine pg_val rfl rfl rfl rfl rfl (e_move (v := .slice _ _ _) rfl) ?_
                      refine pg_does rfl rfl rfl rfl rfl (d_call Try.func15 nm15 rfl rfl (md_can _ _ _ _ _ _ _ Br K71 _ _ t (S.hr [4, 3, 2, 1] rfl) hMr (by omega) (by omega) (S.rdOld R1 rfl) (S.offOld [4, 3, 2, 1] R1 (by decide) Off.nil rfl))) ?_
                      rintro _ w ⟨k95, c95, m95, B95, rfl, hB95, T⟩
                      have S := (S.call [4, 3, 2, 1] T rfl).pk [4, 3, 2, 1, 0] rfl
                      rcases Classical.em (canP Br K71 t) with hg95 | hg95
                      · rw [decide_eq_true hg95]
                        refine pg_val rfl rfl rfl rfl rfl (e_pick_f rfl rfl) ?_
                        refine p_val (e_pick_t rfl rfl) rfl ?_
                        refine p_val (e_move (v := .bool _) rfl) rfl ?_
                        refine pg_does rfl rfl rfl rfl rfl (d_call Try.func13 nm13 rfl rfl (l37awake _)) ?_
                        rintro _ w ⟨rfl, hB⟩
                        have S := S.below hB
                        refine p_val (e_pick_t rfl rfl) rfl ?_
                        refine p_val (e_assign (v := .bool _) rfl) rfl ?_
                        exact p_nil (x_then ⟨_, rfl, _, _, upds_eq ⟨rfl, trivial⟩, by first | (simp only [decide_eq_true_eq, eq_self, true_iff, iff_true, iff_false, Bool.false_eq_true, false_iff, ge_iff_le, gt_iff_lt, true_and, and_true, false_and, and_false, true_or, or_true, false_or, or_false, not_true_eq_false, not_false_eq_true]; omega) | (simp; done) | omega | (simp_all; done), S.none_⟩)
                      · exact False.elim (hg95 (hmt hg90 Br hpr hMr))
                    · rw [decide_eq_false hg90]
                      refine pg_val rfl rfl rfl rfl rfl (e_not rfl) ?_
                      refine pg_val rfl rfl rfl rfl rfl (e_move (v := .bool _) rfl) ?_
                      refine p_no rfl rfl rfl rfl rfl ?_
                      refine p_no rfl rfl rfl rfl rfl ?_
                      refine p_no rfl rfl rfl rfl rfl ?_
                      refine pg_val rfl rfl rfl rfl rfl (e_pick_t rfl rfl) ?_
                      refine p_val (e_pick_t rfl rfl) rfl ?_
                      refine p_val (e_move (v := .bool _) rfl) rfl ?_
                      refine pg_does rfl rfl rfl rfl rfl (d_call Try.func13 nm13 rfl rfl (l37awake _)) ?_
                      rintro _ w ⟨rfl, hB⟩
                      have S := S.below hB
                      refine p_val (e_pick_t rfl rfl) rfl ?_
                      refine p_val (e_assign (v := .bool _) rfl) rfl ?_
                      exact p_nil (x_then ⟨_, rfl, _, _, upds_eq ⟨rfl, trivial⟩, by first | (simp only [decide_eq_true_eq, eq_self, true_iff, iff_true, iff_false, Bool.false_eq_true, false_iff, ge_iff_le, gt_iff_lt, true_and, and_true, false_and, and_false, true_or, or_true, false_or, or_false, not_true_eq_false, not_false_eq_true]; omega) | (simp; done) | omega | (simp_all; done), S.none_⟩)
                  · exact False.elim (hg85 (hmb hg80 Bq hpq hMq))
                · rw [decide_eq_false hg80]
                  obtain ⟨Br, hBr⟩ : ∃ Br, Br = Bq := ⟨_, rfl⟩
                  have hpr := hpq.trans (show Bq <+: Br by rw [hBr]; exact List.prefix_refl _)
                  have hMr : Mind Br K71 := by rw [hBr]; exact hMq
                  rw [← hBr] at S
                  have hlr : Br.length ≤ Bx.length + 192 := by rw [hBr]; omega
                  refine pg_val rfl rfl rfl rfl rfl (e_move (v := .bool _) rfl) ?_
                  refine pg_val rfl rfl rfl rfl rfl (e_not rfl) ?_
                  refine pg_val rfl rfl rfl rfl rfl (e_move (v := .bool _) rfl) ?_
                  refine p_no rfl rfl rfl rfl rfl ?_
                  refine p_no rfl rfl rfl rfl rfl ?_
                  refine p_no rfl rfl rfl rfl rfl ?_
                  refine pg_val rfl rfl rfl rfl rfl (e_pick_t rfl rfl) ?_
                  refine p_val (e_pick_t rfl rfl) rfl ?_
                  refine p_val (e_move (v := .bool _) rfl) rfl ?_
                  refine pg_val rfl rfl rfl rfl rfl (e_move (v := .slice _ _ _) rfl) ?_
                  refine pg_does rfl rfl rfl rfl rfl (d_call Try.func17 nm17 rfl rfl (l37right _ _ _ _ (S.rdOld R1 rfl))) ?_
                  rintro _ w ⟨rfl, hB⟩
                  have S := S.below hB
                  rcases Classical.em (tRight t) with hg90 | hg90
                  · rw [decide_eq_true hg90]
                    refine pg_val rfl rfl rfl rfl rfl (e_not rfl) ?_
                    refine pg_val rfl rfl rfl rfl rfl (e_move (v := .bool _) rfl) ?_
                    refine pg_val rfl rfl rfl rfl rfl (e_move (v := .pointer _) rfl) ?_
                    refine pg_val rfl rfl rfl rfl rfl (e_move (v := .slice _ _ _) rfl) ?_
                    refine pg_does rfl rfl rfl rfl rfl (d_call Try.func15 nm15 rfl rfl (md_can _ _ _ _ _ _ _ Br K71 _ _ t (S.hr [4, 3, 2, 1] rfl) hMr (by omega) (by omega) (S.rdOld R1 rfl) (S.offOld [4, 3, 2, 1] R1 (by decide) Off.nil rfl))) ?_
                    rintro _ w ⟨k95, c95, m95, B95, rfl, hB95, T⟩
                    have S := (S.call [4, 3, 2, 1] T rfl).pk [4, 3, 2, 1, 0] rfl
                    rcases Classical.em (canP Br K71 t) with hg95 | hg95
                    · rw [decide_eq_true hg95]
                      refine pg_val rfl rfl rfl rfl rfl (e_pick_f rfl rfl) ?_
                      refine p_val (e_pick_t rfl rfl) rfl ?_
                      refine p_val (e_move (v := .bool _) rfl) rfl ?_
                      refine pg_does rfl rfl rfl rfl rfl (d_call Try.func13 nm13 rfl rfl (l37awake _)) ?_
                      rintro _ w ⟨rfl, hB⟩
                      have S := S.below hB
                      refine p_val (e_pick_t rfl rfl) rfl ?_
                      refine p_val (e_assign (v := .bool _) rfl) rfl ?_
                      exact p_nil (x_then ⟨_, rfl, _, _, upds_eq ⟨rfl, trivial⟩, by first | (simp only [decide_eq_true_eq, eq_self, true_iff, iff_true, iff_false, Bool.false_eq_true, false_iff, ge_iff_le, gt_iff_lt, true_and, and_true, false_and, and_false, true_or, or_true, false_or, or_false, not_true_eq_false, not_false_eq_true]; omega) | (simp; done) | omega | (simp_all; done), S.none_⟩)
                    · exact False.elim (hg95 (hmt hg90 Br hpr hMr))
                  · rw [decide_eq_false hg90]
                    refine pg_val rfl rfl rfl rfl rfl (e_not rfl) ?_
                    refine pg_val rfl rfl rfl rfl rfl (e_move (v := .bool _) rfl) ?_
                    refine p_no rfl rfl rfl rfl rfl ?_
                    refine p_no rfl rfl rfl rfl rfl ?_
                    refine p_no rfl rfl rfl rfl rfl ?_
                    refine pg_val rfl rfl rfl rfl rfl (e_pick_t rfl rfl) ?_
                    refine p_val (e_pick_t rfl rfl) rfl ?_
                    refine p_val (e_move (v := .bool _) rfl) rfl ?_
                    refine pg_does rfl rfl rfl rfl rfl (d_call Try.func13 nm13 rfl rfl (l37awake _)) ?_
                    rintro _ w ⟨rfl, hB⟩
                    have S := S.below hB
                    refine p_val (e_pick_t rfl rfl) rfl ?_
                    refine p_val (e_assign (v := .bool _) rfl) rfl ?_
                    exact p_nil (x_then ⟨_, rfl, _, _, upds_eq ⟨rfl, trivial⟩, by first | (simp only [decide_eq_true_eq, eq_self, true_iff, iff_true, iff_false, Bool.false_eq_true, false_iff, ge_iff_le, gt_iff_lt, true_and, and_true, false_and, and_false, true_or, or_true, false_or, or_false, not_true_eq_false, not_false_eq_true]; omega) | (simp; done) | omega | (simp_all; done), S.none_⟩)
            · rintro f w ⟨u, b10, rfl, hb10, S⟩
              refine x_then (s_ret ?_)
              exact post1 (v := .bool _) Try.results3 rfl (by rw [hb10.2 trivial]; exact ⟨rfl, S.to_below⟩)
theorem tgrows_n (w0 : World) (A A1 A2 A3 : Option Addr) (n0 c0 n1 c1 n2 c2 n3 c3 : Nat) (k : Int) (X : List (Sl Nd)) (t a b : List Nd) (hX : X.length = n0) (hY : ∀ y ∈ X, NSl w0 y) (R : Rd w0 1 A n0 (X.flatMap slC)) (hc : n0 ≤ c0) (h1 : t.length = n1) (R1 : Rd w0 3 A1 n1 (t.flatMap ndL)) (h2 : a.length = n2) (R2 : Rd w0 3 A2 n2 (a.flatMap ndL)) (h3 : b.length = n3) (R3 : Rd w0 3 A3 n3 (b.flatMap ndL)) :
     Ret Try.prog 3 [.slice A n0 c0, .slice A1 n1 c1, .slice A2 n2 c2, .slice A3 n3 c3, .int .i64 k] w0 fun v w' => v = .bool true ∧ Below w0.heap.size w0 w' := by
  subst h1 h2 h3; exact tgrows_calls w0 A A1 A2 A3 n0 c0 c1 c2 c3 k X t a b hX hY R hc R1 R2 R3
end Go.Proofs.Ytcgcjklpilbndaa
