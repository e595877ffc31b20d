/- Chapter 12's laws on texts and on bytes. It proves no statement by itself. -/
import Derived.Test.YtcgcjklpilbndaaRcp2
set_option linter.unusedSimpArgs false
set_option linter.unusedVariables false
set_option maxRecDepth 100000
set_option maxHeartbeats 2000000
namespace Go.Proofs.Ytcgcjklpilbndaa
open Go Go.RowKit E
attribute [local irreducible] wpList seqH treeH
def Rcp.byt (r : Rcp) : Prop := Bytes r.h ∧ Bytes r.b
theorem app_lt {a b : List Nat} (ha : ∀ x ∈ a, x < 256) (hb : ∀ x ∈ b, x < 256) : ∀ x ∈ a ++ b, x < 256 := fun x h => (List.mem_append.1 h).elim (ha x) (hb x)
theorem rtext_lt {r : Rcp} (h : r.byt) : ∀ x ∈ rtext r, x < 256 := by
  unfold rtext
  exact app_lt (app_lt (app_lt (app_lt (num_lt _) (num_lt _)) (num_lt _)) h.1) h.2
theorem sput_lt {r : Rcp} {s : List Nat} (h : r.byt) (hs : ∀ x ∈ s, x < 256) : ∀ x ∈ sput r s, x < 256 := by
  unfold sput
  exact app_lt (app_lt (app_lt (num_lt _) (rtext_lt h)) (num_lt _)) hs
theorem rcp_back {r : Rcp} (hr : r.ok) (h : r.right) : rRcp (rtext r) = (r, 0) := by
  obtain ⟨h1, h2, h3, h4, h5, h6⟩ := h
  have e : rtext r = num r.t ++ (num r.c ++ (num r.s ++ (r.h ++ (r.b ++ [])))) := by simp [rtext]
  unfold rRcp
  rw [e]
  simp only [rUpto_num (a := r.t) (m := 15) ⟨h1, by omega⟩ (by decide), rUpto_num (a := r.c) (m := 1048576) ⟨h3, h4⟩ (by decide), rUpto_num (a := r.s) (m := 1048576) ⟨h5, h6⟩ (by decide), rSum_sum hr.1, rSum_sum hr.2, rDone_nil, if_true]
theorem rcp_inv {l : List Nat} (hB : Bytes l) (h : (rRcp l).2 = 0) : (rRcp l).1.right ∧ rtext (rRcp l).1 = l ∧ (rRcp l).1.byt := by
  unfold rRcp at h ⊢
  rcases ha : rUpto 15 0 l with ⟨a1, a2, a3⟩
  simp only [ha] at h ⊢
  rcases hb : rUpto 1048576 a2 a3 with ⟨b1, b2, b3⟩
  simp only [hb] at h ⊢
  rcases hc : rUpto 1048576 b2 b3 with ⟨c1, c2, c3⟩
  simp only [hc] at h ⊢
  rcases hh : rSum c2 c3 with ⟨s1, s2, s3⟩
  simp only [hh] at h ⊢
  rcases hg : rSum s2 s3 with ⟨g1, g2, g3⟩
  simp only [hg] at h ⊢
  split at h
  · rename_i hd
    rw [if_pos hd]
    obtain ⟨e1, e2⟩ := rDone_inv hd
    subst e1 e2
    obtain ⟨rfl, f2, f3⟩ := rSum_inv hg
    obtain ⟨rfl, f5, f6⟩ := rSum_inv hh
    -- bytes of what is left
    have key : ∀ {m e x : Int} {l l' : List Nat}, Bytes l → rUpto m e l = (x, 0, l') → Bytes l' := fun hB h => fun y hy => hB y (by rw [(rUpto_inv hB h).2.1]; exact List.mem_append.2 (.inr hy))
    have ha0 : a2 = 0 := by
      by_cases hz : a2 = 0
      · exact hz
      · have : rUpto 1048576 a2 a3 = (0, a2, a3) := by rw [rUpto_of (e2 := a2) (rNum_no hz a3) (by rw [if_neg (by decide)]), if_neg hz]
        rw [this] at hb
        simp only [Prod.mk.injEq] at hb
        have hb2 := hb.2.1
        subst hb2
        have : rUpto 1048576 a2 b3 = (0, a2, b3) := by rw [rUpto_of (e2 := a2) (rNum_no hz b3) (by rw [if_neg (by decide)]), if_neg hz]
        rw [this] at hc
        simp only [Prod.mk.injEq] at hc
        exact absurd hc.2.1 hz
    subst ha0
    have hb0 : b2 = 0 := by
      by_cases hz : b2 = 0
      · exact hz
      · have : rUpto 1048576 b2 b3 = (0, b2, b3) := by rw [rUpto_of (e2 := b2) (rNum_no hz b3) (by rw [if_neg (by decide)]), if_neg hz]
        rw [this] at hc
        simp only [Prod.mk.injEq] at hc
        exact absurd hc.2.1 hz
    subst hb0
    obtain ⟨_, k2, k3, k4, _⟩ := rUpto_inv hB ha
    have B1 := key hB ha
    obtain ⟨_, m2, m3, m4, _⟩ := rUpto_inv B1 hb
    have B2 := key B1 hb
    obtain ⟨_, n2, n3, n4, _⟩ := rUpto_inv B2 hc
    have B3 := key B2 hc
    refine ⟨⟨k3, by show a1 < 16; omega, m3, m4, n3, n4⟩, ?_, ?_, ?_⟩
    · show num a1 ++ num b1 ++ num c1 ++ s1 ++ g1 = l
      rw [k2, m2, n2, f5, f2]
      simp
    · exact fun y hy => B3 y (by rw [f5]; exact List.mem_append.2 (.inl hy))
    · exact fun y hy => B3 y (by rw [f5, f2]; simp [hy])
  · rename_i hd
    exact absurd h hd
theorem rcp_zero {l : List Nat} (h : ¬ (rRcp l).2 = 0) : (rRcp l).1 = Rcp.zero := by
  unfold rRcp at h ⊢
  simp only at h ⊢
  split
  · rename_i hd; rw [if_pos hd] at h; exact absurd rfl h
  · rfl
theorem sgd_back {r : Rcp} {s : List Nat} (hr : r.ok) (h : r.right) (hs : s.length ≤ 65536) : rSgd (sput r s) = (r, s, 0) := by
  have e : sput r s = num (rtext r).length ++ (rtext r ++ (num s.length ++ (s ++ []))) := by simp [sput]
  have hl := rtext_len hr
  unfold rSgd
  rw [e]
  simp only [rText_text (s := rtext r) (m := 65536) (by omega) (by decide), rText_text (s := s) (m := 65536) (by omega) (by decide), rDone_nil, if_true, rcp_back hr h]
theorem rText_no {e m : Int} (hm : 0 ≤ m) (hz : ¬ e = 0) (l : List Nat) : rText m e l = ([], e, l) := by
  have h1 : rUpto m e l = (0, e, l) := by rw [rUpto_of (e2 := e) (rNum_no hz l) (by rw [if_neg (by omega)]), if_neg hz]
  rw [rText_of h1 (b := []) (e2 := e) (l2 := l)]
  unfold rRaw
  rw [if_neg hz]
theorem sgd_inv {l : List Nat} (hB : Bytes l) (h : (rSgd l).2.2 = 0) : (rSgd l).1.right ∧ sput (rSgd l).1 (rSgd l).2.1 = l ∧ (rSgd l).1.byt ∧ Bytes (rSgd l).2.1 := by
  unfold rSgd at h ⊢
  simp only at h ⊢
  generalize hb : rText 65536 (rText 65536 0 l).2.1 (rText 65536 0 l).2.2 = b at h ⊢
  generalize ha : rText 65536 0 l = a at hb h ⊢
  obtain ⟨b1, b2, b3⟩ := b
  obtain ⟨a1, a2, a3⟩ := a
  simp only at h hb ⊢
  by_cases hd : rDone b2 b3 = 0
  · rw [if_pos hd] at h ⊢
    by_cases hq : (rRcp a1).2 = 0
    · rw [if_pos hq] at h ⊢
      obtain ⟨rfl, rfl⟩ := rDone_inv hd
      have ha0 : a2 = 0 := by
        by_cases hz : a2 = 0
        · exact hz
        · rw [rText_no (by decide) hz] at hb
          simp only [Prod.mk.injEq] at hb
          exact absurd hb.2.1 hz
      subst ha0
      obtain ⟨_, k2, _⟩ := rText_inv hB ha
      have B1 : Bytes a3 := fun y hy => hB y (by rw [k2]; simp [hy])
      obtain ⟨_, m2, _⟩ := rText_inv B1 hb
      obtain ⟨q1, q2, q3⟩ := rcp_inv (rText_bytes hB ha) hq
      refine ⟨q1, ?_, q3, rText_bytes B1 hb⟩
      show num (rtext (rRcp a1).1).length ++ rtext (rRcp a1).1 ++ num b1.length ++ b1 = l
      rw [q2, k2, m2]
      simp
    · rw [if_neg hq] at h
      exact absurd h hq
  · rw [if_neg hd] at h
    exact absurd h hd
theorem sgd_no {l : List Nat} (h : ¬ (rSgd l).2.2 = 0) : (rSgd l).1 = Rcp.zero ∧ (rSgd l).2.1 = [] := by
  unfold rSgd at h ⊢
  simp only at h ⊢
  split
  · rename_i hd
    rw [if_pos hd] at h
    split
    · rename_i hq; rw [if_pos hq] at h; exact absurd rfl h
    · exact ⟨rfl, rfl⟩
  · exact ⟨rfl, rfl⟩
theorem zero_ok : Rcp.zero.ok := ⟨length_zsum, length_zsum⟩
theorem zsum_lt : Bytes zsum := fun x h => by rw [(List.mem_replicate.1 h).2]; decide
theorem sgd_ok (l : List Nat) : (rSgd l).1.ok := by
  unfold rSgd
  simp only
  split
  · split
    · exact rcp_ok _
    · exact zero_ok
  · exact zero_ok
theorem eqRcp (r q : Rcp) (hr : r.ok) (hq : q.ok) : EqV Try.prog 3 46 (.agg (cat (rcpC r)).toArray) (.agg (cat (rcpC q)).toArray) (r = q) :=
  (EqV.struct (j := 2) Try.underlying46 (by kernel_rfl)
    (eqf_cons rfl (fun w => run_part1 (a := 0) w ag3 rfl rfl) (fun w => run_part1 (a := 0) w ag3 rfl rfl) ((EqV.int Try.underlying3).more 1)
    (eqf_cons rfl (fun w => run_part1 (a := 1) w ag3 rfl rfl) (fun w => run_part1 (a := 1) w ag3 rfl rfl) ((EqV.int Try.underlying3).more 1)
    (eqf_cons rfl (fun w => run_part1 (a := 2) w ag3 rfl rfl) (fun w => run_part1 (a := 2) w ag3 rfl rfl) ((EqV.int Try.underlying3).more 1)
    (eqf_cons rfl (fun w => run_partA (a := 3) w ag44 sz44 rfl rfl (by simp [hr.1])) (fun w => run_partA (a := 3) w ag44 sz44 rfl rfl (by simp [hq.1])) (EqV.sum eq44 hr.1 hq.1)
    (eqf_cons rfl (fun w => run_partA (a := 4) w ag44 sz44 rfl (by simp [rcpC, hr.1]) (by simp [hr.2])) (fun w => run_partA (a := 4) w ag44 sz44 rfl (by simp [rcpC, hq.1]) (by simp [hq.2])) (EqV.sum eq44 hr.2 hq.2) eqf_nil)))))).iff
    (by obtain ⟨a, b, c, d, e⟩ := r; obtain ⟨a', b', c', d', e'⟩ := q; simp)
noncomputable instance : DecidableEq Rcp := fun r q => Classical.propDecidable _
theorem l12awake (w0 : World) :
    Ret Try.prog 24 [] w0 fun v w' => v = .bool true ∧ Below w0.heap.size w0 w' := by
  refine enter Try.func24 rfl Try.ntmps24 (Nat.le_of_ble_eq_true rfl) ?_
  have S := St.init w0
  refine s_seq (s_plain ?_)
  refine p_val (e_assign (v := .bool _) rfl) rfl ?_
  refine p_nil (x_then (s_seq (s_plain ?_)))
  refine p_val (e_buildS0 bt54) rfl ?_
  refine p_does (d_call Try.func28 nm28 rfl rfl (sg_put _ Rcp.zero none 0 [] zero_ok (Rd.nil _ _ _) (by decide))) rfl ?_
  rintro _ w ⟨k5, c5, rfl, T⟩
  have S := S.merge T rfl
  refine p_does (d_call Try.func27 nm27 rfl rfl (Ret.mono (R' := fun v w' => ∃ k c2, v = .tuple #[.agg (cat (sgdC Rcp.zero (at_ k) 0 c2)).toArray, .int .i64 0] ∧ St _ w' [] [k] [Rw 5 1 0 c2 (bv [])]) (sg_get _ _ _ (sput Rcp.zero []) (S.rdRw 0 rfl rfl) (sput_lt ⟨zsum_lt, zsum_lt⟩ (by simp)) (S.capRw 0 rfl rfl) (by have h1 := rtext_len zero_ok; have h2 := num_len (rtext Rcp.zero).length; have h3 := num_len ([] : List Nat).length; unfold sput; simp only [List.length_append, List.length_nil] at *; omega)) (fun v w' ⟨k, c2, hv, hT⟩ => by rw [sgd_back zero_ok (by simp [Rcp.right, Rcp.zero]) (by decide)] at hv hT; exact ⟨k, c2, hv, hT⟩))) rfl ?_
  rintro _ w ⟨k6, c6, rfl, T⟩
  have S := S.merge T rfl
  refine p_val (e_move (v := .tuple _) rfl) rfl ?_
  refine p_val (e_extract rfl rfl) rfl ?_
  refine p_val (e_extract rfl rfl) rfl ?_
  refine p_does (d_allocA S zs54) rfl ?_
  rintro _ w ⟨b1, rfl, S⟩
  refine p_does (d_storeW S 0 rfl rfl (by first | exact bv_one _ | exact sv_one _ | exact iv_one _ | with_reducible assumption | (refine One.mem ?_; repeat (first | exact One.bv _ | exact One.sv _ | exact One.iv _ | exact One.nil | exact One.cat0 | refine One.cat1 ?_ ?_ | refine One.cons rfl ?_ | refine One.append ?_ ?_))) sz54 (by first | with_reducible assumption | (simp [cat, sgdC, zero_ok.1, zero_ok.2]; done) | (simp [cat, sgdC, zero_ok.1, zero_ok.2]; omega) | rfl) rfl rfl (by first | with_reducible assumption | (simp [cat, sgdC, zero_ok.1, zero_ok.2]; done) | (simp [cat, sgdC, zero_ok.1, zero_ok.2]; omega) | rfl)) rfl ?_
  intro _ w S
  refine p_val (e_assign (v := .int _ _) rfl) rfl ?_
  refine p_nil (x_then (s_seq ?_))
  refine s_cutK (ks := [some b1, k6, k5]) (ps := [Ex _ _, Rw _ _ _ _ _, Rw _ _ _ _ _]) [] trivial S (fun keep ks ps f' w' => ∃ u bb, f' = upds u ((0, .bool bb) :: keep) ∧ (bb = true ↔ True) ∧ St w0 w' [] ks ps) ?_ ?_
  · refine s_plain ?_
    refine p_val (e_buildS bt46 (Eq.trans (fill_cat (v := .int _ _) (l' := [[_]]) 0 1 rfl (rfl) (by first | with_reducible assumption | (simp [cat, sgdC, zero_ok.1, zero_ok.2]; done) | (simp [cat, sgdC, zero_ok.1, zero_ok.2]; omega) | rfl) (by first | with_reducible assumption | (simp [cat, sgdC, zero_ok.1, zero_ok.2]; done) | (simp [cat, sgdC, zero_ok.1, zero_ok.2]; omega) | rfl) (by first | with_reducible assumption | (simp [cat, sgdC, zero_ok.1, zero_ok.2]; done) | (simp [cat, sgdC, zero_ok.1, zero_ok.2]; omega) | rfl)) rfl)) rfl ?_
    refine p_does (d_call Try.func22 nm22 rfl rfl (rc_right _ ⟨16, 0, 0, zsum, zsum⟩ ⟨length_zsum, length_zsum⟩)) rfl ?_
    rintro _ w ⟨rfl, hB⟩
    have S := S.below hB
    rcases Classical.em (Rcp.right ⟨16, 0, 0, zsum, zsum⟩) with hg10 | hg10
    · exact False.elim (by simp [Rcp.right] at hg10)
    · rw [decide_eq_false hg10]
      refine p_val (e_not rfl) rfl ?_
      refine p_val (e_move (v := .bool _) rfl) rfl ?_
      refine pg_val rfl rfl rfl rfl rfl (e_buildS bt46 (Eq.trans (fill_cat (v := .int _ _) (l' := [[_]]) 0 1 rfl (rfl) (by first | with_reducible assumption | (simp [cat, sgdC, zero_ok.1, zero_ok.2]; done) | (simp [cat, sgdC, zero_ok.1, zero_ok.2]; omega) | rfl) (by first | with_reducible assumption | (simp [cat, sgdC, zero_ok.1, zero_ok.2]; done) | (simp [cat, sgdC, zero_ok.1, zero_ok.2]; omega) | rfl) (by first | with_reducible assumption | (simp [cat, sgdC, zero_ok.1, zero_ok.2]; done) | (simp [cat, sgdC, zero_ok.1, zero_ok.2]; omega) | rfl)) rfl)) ?_
      refine pg_does rfl rfl rfl rfl rfl (d_call Try.func22 nm22 rfl rfl (rc_right _ ⟨15, 0, 0, zsum, zsum⟩ ⟨length_zsum, length_zsum⟩)) ?_
      rintro _ w ⟨rfl, hB⟩
      have S := S.below hB
      rcases Classical.em (Rcp.right ⟨15, 0, 0, zsum, zsum⟩) with hg14 | hg14
      · rw [decide_eq_true hg14]
        refine p_val (e_pick_t rfl rfl) rfl ?_
        refine p_val (e_move (v := .bool _) rfl) rfl ?_
        refine pg_val rfl rfl rfl rfl rfl (e_move (v := .int _ _) rfl) ?_
        refine pg_val rfl rfl rfl rfl rfl (e_eql rfl rfl) ?_
        refine p_val (e_pick_t rfl rfl) rfl ?_
        refine p_val (e_assign (v := .bool _) rfl) rfl ?_
        exact p_nil (x_then ⟨_, rfl, _, _, upds_eq ⟨rfl, trivial⟩, by first | (simp only [decide_eq_true_eq, eq_self, true_iff, iff_true, iff_false, Bool.false_eq_true, false_iff, ge_iff_le, gt_iff_lt, true_and, and_true, false_and, and_false, true_or, or_true, false_or, or_false, not_true_eq_false, not_false_eq_true]; omega) | simp | omega | simp_all, S⟩)
      · exact False.elim (hg14 (by simp [Rcp.right]))
  · rintro f w ⟨u, b0, rfl, hb0, S⟩
    refine x_then (s_ret ?_)
    exact post1 (v := .bool _) Try.results24 rfl (⟨by rw [hb0.2 trivial], S.to_below⟩)
end Go.Proofs.Ytcgcjklpilbndaa
