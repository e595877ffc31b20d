/- Own texts, one behind the other: walks and laws that the statement needs. They prove no statement by themselves. -/
import Derived.Test.YtdhfiamgmokfbaaZP12c6
import Derived.Test.YtdhfiamgmokfbaaZP12c5
import Derived.Test.YtdhfiamgmokfbaaZP12c2
/- Receipts: their texts, and what is read of texts. It proves no statement by itself. -/
set_option linter.unusedSimpArgs false
set_option linter.unusedVariables false
set_option maxRecDepth 100000
set_option maxHeartbeats 1000000
namespace Go.Proofs.Ytdhfiamgmokfbaa
open Go Go.RowKit E
attribute [local irreducible] wpList seqH treeH
structure Rcp where
  (t c s : Int)
  (h b : List Nat)
def rcpC (r : Rcp) : List (List Value) := [[.int .i64 r.t], [.int .i64 r.c], [.int .i64 r.s], bv r.h, bv r.b]
def Rcp.ok (r : Rcp) : Prop := r.h.length = 32 ∧ r.b.length = 32
def Rcp.right (r : Rcp) : Prop := 0 ≤ r.t ∧ r.t < 16 ∧ 0 ≤ r.c ∧ r.c ≤ 1048576 ∧ 0 ≤ r.s ∧ r.s ≤ 1048576
instance (r : Rcp) : Decidable r.right := by unfold Rcp.right; infer_instance
def Rcp.zero : Rcp := ⟨0, 0, 0, zsum, zsum⟩
def rtext (r : Rcp) : List Nat := num r.t ++ num r.c ++ num r.s ++ r.h ++ r.b
theorem rtext_len {r : Rcp} (h : r.ok) : (rtext r).length ≤ 94 := by
  have h1 := num_len r.t
  have h2 := num_len r.c
  have h3 := num_len r.s
  have h4 := h.1
  have h5 := h.2
  unfold rtext
  simp only [List.length_append]; omega
def rRcp (l : List Nat) : Rcp × Int :=
  let a := rUpto 15 0 l
  let b := rUpto 1048576 a.2.1 a.2.2
  let c := rUpto 1048576 b.2.1 b.2.2
  let h := rSum c.2.1 c.2.2
  let g := rSum h.2.1 h.2.2
  if rDone g.2.1 g.2.2 = 0 then (⟨a.1, b.1, c.1, h.1, g.1⟩, 0) else (Rcp.zero, rDone g.2.1 g.2.2)
theorem rc_right (w0 : World) (r : Rcp) (hr : r.ok) :
    Ret Try.prog 95 [.agg (cat (rcpC r)).toArray] w0 fun v w' => v = .bool (decide r.right) ∧ Below w0.heap.size w0 w' := by
  refine enter Try.func95 rfl Try.ntmps95 (Nat.le_of_ble_eq_true rfl) ?_
  have S := St.init w0
  refine s_seq (s_plain ?_)
  refine p_does (d_boxA S rfl) rfl ?_
  rintro _ w ⟨b1, rfl, S⟩
  refine p_val (e_assign (v := .bool _) rfl) rfl ?_
  refine p_nil (x_then (s_seq ?_))
  refine s_cutK (ks := [some b1]) (ps := [Ex _ _]) [] trivial S (fun keep ks ps f' w' => ∃ u bb, f' = upds u ((2, .bool bb) :: keep) ∧ (bb = true ↔ (((((((0 : Int) ≤ r.t) ∧ (r.t < (16 : Int))) ∧ ((0 : Int) ≤ r.c)) ∧ (r.c ≤ (1048576 : Int))) ∧ ((0 : Int) ≤ r.s)) ∧ (r.s ≤ (1048576 : Int)))) ∧ St w0 w' [] ks ps) ?_ ?_
  · refine s_plain ?_
    refine p_val (e_field rfl Try.underlying111 rfl sz3 (by decide)) rfl ?_
    refine p_val (e_loadF1 (i := 0) (off := 0) rfl ag3 S (j := 0) rfl rfl rfl (by first | with_reducible assumption | (simp [cat, rcpC, hr.1, hr.2]; done) | (simp [cat, rcpC, hr.1, hr.2]; omega) | rfl)) rfl ?_
    refine p_valB (e_geq rfl rfl) rfl (fun hg5 => ?_) (fun hg5 => ?_)
    · refine p_val (e_move (v := .bool _) rfl) rfl ?_
      refine pg_val rfl rfl rfl rfl rfl (e_field rfl Try.underlying111 rfl sz3 (by decide)) ?_
      refine pg_val rfl rfl rfl rfl rfl (e_loadF1 (i := 0) (off := 0) rfl ag3 S (j := 0) rfl rfl rfl (by first | with_reducible assumption | (simp [cat, rcpC, hr.1, hr.2]; done) | (simp [cat, rcpC, hr.1, hr.2]; omega) | rfl)) ?_
      refine pg_valB rfl rfl rfl rfl rfl (e_lss rfl rfl) (fun hg9 => ?_) (fun hg9 => ?_)
      · refine p_val (e_pick_t rfl rfl) rfl ?_
        refine p_val (e_move (v := .bool _) rfl) rfl ?_
        refine pg_val rfl rfl rfl rfl rfl (e_field rfl Try.underlying111 rfl sz3 (by decide)) ?_
        refine pg_val rfl rfl rfl rfl rfl (e_loadF1 (i := 1) (off := 1) rfl ag3 S (j := 0) rfl rfl rfl (by first | with_reducible assumption | (simp [cat, rcpC, hr.1, hr.2]; done) | (simp [cat, rcpC, hr.1, hr.2]; omega) | rfl)) ?_
        refine pg_valB rfl rfl rfl rfl rfl (e_geq rfl rfl) (fun hg14 => ?_) (fun hg14 => ?_)
        · refine p_val (e_pick_t rfl rfl) rfl ?_
          refine p_val (e_move (v := .bool _) rfl) rfl ?_
          refine pg_val rfl rfl rfl rfl rfl (e_field rfl Try.underlying111 rfl sz3 (by decide)) ?_
          refine pg_val rfl rfl rfl rfl rfl (e_loadF1 (i := 1) (off := 1) rfl ag3 S (j := 0) rfl rfl rfl (by first | with_reducible assumption | (simp [cat, rcpC, hr.1, hr.2]; done) | (simp [cat, rcpC, hr.1, hr.2]; omega) | rfl)) ?_
          refine pg_valB rfl rfl rfl rfl rfl (e_leq rfl rfl) (fun hg19 => ?_) (fun hg19 => ?_)
          · refine p_val (e_pick_t rfl rfl) rfl ?_
            refine p_val (e_move (v := .bool _) rfl) rfl ?_
            refine pg_val rfl rfl rfl rfl rfl (e_field rfl Try.underlying111 rfl sz3 (by decide)) ?_
            refine pg_val rfl rfl rfl rfl rfl (e_loadF1 (i := 2) (off := 2) rfl ag3 S (j := 0) rfl rfl rfl (by first | with_reducible assumption | (simp [cat, rcpC, hr.1, hr.2]; done) | (simp [cat, rcpC, hr.1, hr.2]; omega) | rfl)) ?_
            refine pg_valB rfl rfl rfl rfl rfl (e_geq rfl rfl) (fun hg24 => ?_) (fun hg24 => ?_)
            · refine p_val (e_pick_t rfl rfl) rfl ?_
              refine p_val (e_move (v := .bool _) rfl) rfl ?_
              refine pg_val rfl rfl rfl rfl rfl (e_field rfl Try.underlying111 rfl sz3 (by decide)) ?_
              refine pg_val rfl rfl rfl rfl rfl (e_loadF1 (i := 2) (off := 2) rfl ag3 S (j := 0) rfl rfl rfl (by first | with_reducible assumption | (simp [cat, rcpC, hr.1, hr.2]; done) | (simp [cat, rcpC, hr.1, hr.2]; omega) | rfl)) ?_
              refine pg_val rfl rfl rfl rfl rfl (e_leq rfl rfl) ?_
              refine p_val (e_pick_t rfl rfl) rfl ?_
              refine p_val (e_assign (v := .bool _) rfl) rfl ?_
              exact p_nil (x_then ⟨_, rfl, _, _, upds_eq ⟨rfl, trivial⟩, by first | (simp only [decide_eq_true_eq, eq_self, true_iff, iff_true, iff_false, Bool.false_eq_true, false_iff, ge_iff_le, gt_iff_lt, true_and, and_true, false_and, and_false, true_or, or_true, false_or, or_false, not_true_eq_false, not_false_eq_true]; omega) | simp | omega | simp_all, S⟩)
            · refine p_val (e_pick_t rfl rfl) rfl ?_
              refine p_val (e_move (v := .bool _) rfl) rfl ?_
              refine p_no rfl rfl rfl rfl rfl ?_
              refine p_no rfl rfl rfl rfl rfl ?_
              refine p_no rfl rfl rfl rfl rfl ?_
              refine p_val (e_pick_f rfl rfl) rfl ?_
              refine p_val (e_assign (v := .bool _) rfl) rfl ?_
              exact p_nil (x_then ⟨_, rfl, _, _, upds_eq ⟨rfl, trivial⟩, by first | (simp only [decide_eq_true_eq, eq_self, true_iff, iff_true, iff_false, Bool.false_eq_true, false_iff, ge_iff_le, gt_iff_lt, true_and, and_true, false_and, and_false, true_or, or_true, false_or, or_false, not_true_eq_false, not_false_eq_true]; omega) | simp | omega | simp_all, S⟩)
          · refine p_val (e_pick_t rfl rfl) rfl ?_
            refine p_val (e_move (v := .bool _) rfl) rfl ?_
            refine p_no rfl rfl rfl rfl rfl ?_
            refine p_no rfl rfl rfl rfl rfl ?_
            refine p_no rfl rfl rfl rfl rfl ?_
            refine p_val (e_pick_f rfl rfl) rfl ?_
            refine p_val (e_move (v := .bool _) rfl) rfl ?_
            refine p_no rfl rfl rfl rfl rfl ?_
            refine p_no rfl rfl rfl rfl rfl ?_
            refine p_no rfl rfl rfl rfl rfl ?_
            refine p_val (e_pick_f rfl rfl) rfl ?_
            refine p_val (e_assign (v := .bool _) rfl) rfl ?_
            exact p_nil (x_then ⟨_, rfl, _, _, upds_eq ⟨rfl, trivial⟩, by first | (simp only [decide_eq_true_eq, eq_self, true_iff, iff_true, iff_false, Bool.false_eq_true, false_iff, ge_iff_le, gt_iff_lt, true_and, and_true, false_and, and_false, true_or, or_true, false_or, or_false, not_true_eq_false, not_false_eq_true]; omega) | simp | omega | simp_all, S⟩)
        · refine p_val (e_pick_t rfl rfl) rfl ?_
          refine p_val (e_move (v := .bool _) rfl) rfl ?_
          refine p_no rfl rfl rfl rfl rfl ?_
          refine p_no rfl rfl rfl rfl rfl ?_
          refine p_no rfl rfl rfl rfl rfl ?_
          refine p_val (e_pick_f rfl rfl) rfl ?_
          refine p_val (e_move (v := .bool _) rfl) rfl ?_
          refine p_no rfl rfl rfl rfl rfl ?_
          refine p_no rfl rfl rfl rfl rfl ?_
          refine p_no rfl rfl rfl rfl rfl ?_
          refine p_val (e_pick_f rfl rfl) rfl ?_
          refine p_val (e_move (v := .bool _) rfl) rfl ?_
          refine p_no rfl rfl rfl rfl rfl ?_
          refine p_no rfl rfl rfl rfl rfl ?_
          refine p_no rfl rfl rfl rfl rfl ?_
          refine p_val (e_pick_f rfl rfl) rfl ?_
          refine p_val (e_assign (v := .bool _) rfl) rfl ?_
          exact p_nil (x_then ⟨_, rfl, _, _, upds_eq ⟨rfl, trivial⟩, by first | (simp only [decide_eq_true_eq, eq_self, true_iff, iff_true, iff_false, Bool.false_eq_true, false_iff, ge_iff_le, gt_iff_lt, true_and, and_true, false_and, and_false, true_or, or_true, false_or, or_false, not_true_eq_false, not_false_eq_true]; omega) | simp | omega | simp_all, S⟩)
      · refine p_val (e_pick_t rfl rfl) rfl ?_
        refine p_val (e_move (v := .bool _) rfl) rfl ?_
        refine p_no rfl rfl rfl rfl rfl ?_
        refine p_no rfl rfl rfl rfl rfl ?_
        refine p_no rfl rfl rfl rfl rfl ?_
        refine p_val (e_pick_f rfl rfl) rfl ?_
        refine p_val (e_move (v := .bool _) rfl) rfl ?_
        refine p_no rfl rfl rfl rfl rfl ?_
        refine p_no rfl rfl rfl rfl rfl ?_
        refine p_no rfl rfl rfl rfl rfl ?_
        refine p_val (e_pick_f rfl rfl) rfl ?_
        refine p_val (e_move (v := .bool _) rfl) rfl ?_
        refine p_no rfl rfl rfl rfl rfl ?_
        refine p_no rfl rfl rfl rfl rfl ?_
        refine p_no rfl rfl rfl rfl rfl ?_
        refine p_val (e_pick_f rfl rfl) rfl ?_
        refine p_val (e_move (v := .bool _) rfl) rfl ?_
        refine p_no rfl rfl rfl rfl rfl ?_
        refine p_no rfl rfl rfl rfl rfl ?_
        refine p_no rfl rfl rfl rfl rfl ?_
        refine p_val (e_pick_f rfl rfl) rfl ?_
        refine p_val (e_assign (v := .bool _) rfl) rfl ?_
        exact p_nil (x_then ⟨_, rfl, _, _, upds_eq ⟨rfl, trivial⟩, by first | (simp only [decide_eq_true_eq, eq_self, true_iff, iff_true, iff_false, Bool.false_eq_true, false_iff, ge_iff_le, gt_iff_lt, true_and, and_true, false_and, and_false, true_or, or_true, false_or, or_false, not_true_eq_false, not_false_eq_true]; omega) | simp | omega | simp_all, S⟩)
    · refine p_val (e_move (v := .bool _) rfl) rfl ?_
      refine p_no rfl rfl rfl rfl rfl ?_
      refine p_no rfl rfl rfl rfl rfl ?_
      refine p_no rfl rfl rfl rfl rfl ?_
      refine p_val (e_pick_f rfl rfl) rfl ?_
      refine p_val (e_move (v := .bool _) rfl) rfl ?_
      refine p_no rfl rfl rfl rfl rfl ?_
      refine p_no rfl rfl rfl rfl rfl ?_
      refine p_no rfl rfl rfl rfl rfl ?_
      refine p_val (e_pick_f rfl rfl) rfl ?_
      refine p_val (e_move (v := .bool _) rfl) rfl ?_
      refine p_no rfl rfl rfl rfl rfl ?_
      refine p_no rfl rfl rfl rfl rfl ?_
      refine p_no rfl rfl rfl rfl rfl ?_
      refine p_val (e_pick_f rfl rfl) rfl ?_
      refine p_val (e_move (v := .bool _) rfl) rfl ?_
      refine p_no rfl rfl rfl rfl rfl ?_
      refine p_no rfl rfl rfl rfl rfl ?_
      refine p_no rfl rfl rfl rfl rfl ?_
      refine p_val (e_pick_f rfl rfl) rfl ?_
      refine p_val (e_move (v := .bool _) rfl) rfl ?_
      refine p_no rfl rfl rfl rfl rfl ?_
      refine p_no rfl rfl rfl rfl rfl ?_
      refine p_no rfl rfl rfl rfl rfl ?_
      refine p_val (e_pick_f rfl rfl) rfl ?_
      refine p_val (e_assign (v := .bool _) rfl) rfl ?_
      exact p_nil (x_then ⟨_, rfl, _, _, upds_eq ⟨rfl, trivial⟩, by first | (simp only [decide_eq_true_eq, eq_self, true_iff, iff_true, iff_false, Bool.false_eq_true, false_iff, ge_iff_le, gt_iff_lt, true_and, and_true, false_and, and_false, true_or, or_true, false_or, or_false, not_true_eq_false, not_false_eq_true]; omega) | simp | omega | simp_all, S⟩)
  · rintro f w ⟨u, b2, rfl, hb2, S⟩
    refine x_then (s_ret ?_)
    exact post1 (v := .bool _) Try.results95 rfl (⟨by congr 1; exact Bool.eq_iff_iff.2 (hb2.trans (Iff.trans (by unfold Rcp.right; omega) decide_eq_true_iff.symm)), S.to_below⟩)
theorem rc_text (w0 : World) (r : Rcp) (hr : r.ok) :
    Ret Try.prog 96 [.agg (cat (rcpC r)).toArray] w0 fun v w' => ∃ k c, v = .slice (at_ k) (rtext r).length c ∧ St w0 w' [] [k] [Rw 5 1 (rtext r).length c (bv (rtext r))] := by
  refine enter Try.func96 rfl Try.ntmps96 (Nat.le_of_ble_eq_true rfl) ?_
  have S := St.init w0
  have hn : (nums [r.t, r.c, r.s]).length ≤ 30 := nums_len _
  refine s_seq (s_plain ?_)
  refine p_does (d_boxA S rfl) rfl ?_
  rintro _ w ⟨b1, rfl, S⟩
  refine p_val (e_assign (v := .slice _ _ _) rfl) rfl ?_
  refine p_nil (x_then (s_seq (s_plain ?_)))
  refine p_does (d_allocA S zs98) rfl ?_
  rintro _ w ⟨b3, rfl, S⟩
  have S := pen_new S
  refine p_nil (x_then (s_seq ?_))
  refine s_drawK (ks := [some b1]) (ps := [Ex _ _]) (S.pk [2] rfl) [(true, 0), (true, 1), (true, 2), (true, 3), (true, 4), (true, 5), (true, 8), (true, 9), (true, 11), (true, 12), (false, 6), (false, 7), (false, 10), (false, 13), (false, 14)] [15] [15] mixed (by kernel_rfl) (by repeat (first | exact Calm.post _ _ _ | refine Calm.then ?_ _ | refine Calm.inB ?_ _)) (fun hS => ?_)
  have S := S.drew
  refine q_val (fun w hS => e_field rfl Try.underlying111 rfl sz3 (by decide)) rfl hS ?_
  refine q_val (fun w hS => e_loadF1 (i := 0) (off := 0) rfl ag3 hS (j := 0) rfl rfl rfl (by first | with_reducible assumption | (simp [cat, rcpC, hr.1, hr.2]; done) | (simp [cat, rcpC, hr.1, hr.2]; omega) | rfl)) rfl hS ?_
  refine q_val (fun w hS => e_field rfl Try.underlying111 rfl sz3 (by decide)) rfl hS ?_
  refine q_val (fun w hS => e_loadF1 (i := 1) (off := 1) rfl ag3 hS (j := 0) rfl rfl rfl (by first | with_reducible assumption | (simp [cat, rcpC, hr.1, hr.2]; done) | (simp [cat, rcpC, hr.1, hr.2]; omega) | rfl)) rfl hS ?_
  refine q_val (fun w hS => e_field rfl Try.underlying111 rfl sz3 (by decide)) rfl hS ?_
  refine q_val (fun w hS => e_loadF1 (i := 2) (off := 2) rfl ag3 hS (j := 0) rfl rfl rfl (by first | with_reducible assumption | (simp [cat, rcpC, hr.1, hr.2]; done) | (simp [cat, rcpC, hr.1, hr.2]; omega) | rfl)) rfl hS ?_
  refine q_val (fun w hS => e_field rfl Try.underlying111 rfl sz29 (by decide)) rfl hS ?_
  refine q_val (fun w hS => e_loadFA (i := 3) (off := 3) rfl ag29 sz29 (by decide) hS (j := 0) rfl rfl rfl (by first | with_reducible assumption | (simp [cat, rcpC, hr.1, hr.2]; done) | (simp [cat, rcpC, hr.1, hr.2]; omega) | rfl) (by first | with_reducible assumption | (simp [cat, rcpC, hr.1, hr.2]; done) | (simp [cat, rcpC, hr.1, hr.2]; omega) | rfl)) rfl hS ?_
  refine q_val (fun w hS => e_field rfl Try.underlying111 rfl sz29 (by decide)) rfl hS ?_
  refine q_val (fun w hS => e_loadFA (i := 4) (off := 35) rfl ag29 sz29 (by decide) hS (j := 0) rfl rfl rfl (by first | with_reducible assumption | (simp [cat, rcpC, hr.1, hr.2]; done) | (simp [cat, rcpC, hr.1, hr.2]; omega) | rfl) (by first | with_reducible assumption | (simp [cat, rcpC, hr.1, hr.2]; done) | (simp [cat, rcpC, hr.1, hr.2]; omega) | rfl)) rfl hS ?_
  refine q_does (d_litI S Try.underlying128 sz3 zv3 rfl (l := [_, _, _]) rfl rfl (by decide)) rfl ?_
  rintro _ w ⟨b10, rfl, S⟩
  have hS := S.pk [3] rfl
  refine ⟨hS, ?_⟩
  refine q_does (d_call Try.func64 nm64 rfl rfl (pen_nums _ _ _ _ _ _ _ _ _ (S.hr [1, 2] rfl) (S.rdRw 0 rfl rfl) (S.offRow 0 [1, 2] rfl rfl) (by first | omega | (simp only [List.length_append, List.length_cons, List.length_nil, bv_length, rcpC, hr.1, hr.2]; omega) | (simp [cat, rcpC, hr.1, hr.2]; omega)) (by decide))) rfl ?_
  rintro _ w ⟨rfl, k11, c11, T⟩
  have S := (S.call [1, 2] T rfl).pk [2, 0, 1, 5] rfl
  have hS := S.pk [3] rfl
  refine ⟨hS, ?_⟩
  refine q_does (d_call Try.func65 nm65 rfl rfl (pen_sum _ _ _ _ _ _ (S.hr [1, 2] rfl) (by first | with_reducible assumption | (simp [cat, rcpC, hr.1, hr.2]; done) | (simp [cat, rcpC, hr.1, hr.2]; omega) | rfl) (by first | omega | (simp only [List.length_append, List.length_cons, List.length_nil, bv_length, rcpC, hr.1, hr.2]; omega) | (simp [cat, rcpC, hr.1, hr.2]; omega)))) rfl ?_
  rintro _ w ⟨rfl, k14, c14, T⟩
  have S := (S.call [1, 2] T rfl).pk [2, 0, 1, 5] rfl
  have hS := S.pk [3] rfl
  refine ⟨hS, ?_⟩
  refine q_does (d_call Try.func65 nm65 rfl rfl (pen_sum _ _ _ _ _ _ (S.hr [1, 2] rfl) (by first | with_reducible assumption | (simp [cat, rcpC, hr.1, hr.2]; done) | (simp [cat, rcpC, hr.1, hr.2]; omega) | rfl) (by first | omega | (simp only [List.length_append, List.length_cons, List.length_nil, bv_length, rcpC, hr.1, hr.2]; omega) | (simp [cat, rcpC, hr.1, hr.2]; omega)))) rfl ?_
  rintro _ w ⟨rfl, k17, c17, T⟩
  have S := (S.call [1, 2] T rfl).pk [2, 0, 1, 5] rfl
  have hS := S.pk [3] rfl
  refine ⟨hS, ?_⟩
  refine q_does (d_call Try.func67 nm67 rfl rfl (pen_bytes _ _ _ _ _ (S.exact_ 1 rfl rfl) (S.rdRw 2 rfl rfl) (by first | omega | (simp only [List.length_append, List.length_cons, List.length_nil, bv_length, rcpC, hr.1, hr.2]; omega) | (simp [cat, rcpC, hr.1, hr.2]; omega)))) rfl ?_
  rintro _ w ⟨k18, c18, rfl, T⟩
  have S := S.merge T rfl
  have hS := S.pk [4] rfl
  refine ⟨hS, ?_⟩
  refine q_nil ?_
  refine p_val (e_assign (v := .slice _ _ _) rfl) rfl ?_
  refine p_nil (x_then (s_ret ?_))
  exact post1 (v := .slice _ _ _) Try.results96 rfl (by have e : [] ++ nums [r.t, r.c, r.s] ++ r.h ++ r.b = rtext r := by { simp [nums, rtext] }; rw [← e]; exact ⟨_, _, rfl, S.pk [0] rfl⟩)
theorem rc_read (w0 : World) (A : Option Addr) (c : Nat) (l : List Nat) (R : Rd w0 1 A l.length (bv l)) (bR : Bytes l) (cR : l.length ≤ c) (nR : l.length ≤ 1099511000000) :
    Ret Try.prog 108 [.slice A l.length c] w0 fun v w' => v = .tuple #[.agg (cat (rcpC (rRcp l).1)).toArray, .int .i64 (rRcp l).2] ∧ Below w0.heap.size w0 w' := by
  refine enter Try.func108 rfl Try.ntmps108 (Nat.le_of_ble_eq_true rfl) ?_
  have S := St.init w0
  refine s_seq (s_plain ?_)
  refine p_does (d_allocA S zs111) rfl ?_
  rintro _ w ⟨b2, rfl, S⟩
  refine p_val (e_assign (v := .int _ _) rfl) rfl ?_
  refine p_nil (x_then (s_seq (s_plain ?_)))
  refine p_val (e_move (v := .slice _ _ _) rfl) rfl ?_
  refine p_does (d_call Try.func103 nm103 rfl rfl (eye_look _ _ _ _)) rfl ?_
  rintro _ w ⟨b8, rfl, T⟩
  have S := S.merge T rfl
  refine p_val (e_assign (v := .pointer _) rfl) rfl ?_
  refine p_nil (x_then (s_seq (s_plain ?_)))
  refine p_val (e_move (v := .pointer _) rfl) rfl ?_
  refine p_does (d_call Try.func104 nm104 rfl rfl (eye_upto _ _ _ _ _ _ _ (S.hr [0] rfl) (S.rdOld R rfl) (S.offOld [0] R (by decide) Off.nil rfl) bR cR nR)) rfl ?_
  rintro _ w ⟨a10, e10, l10, A10, c10, q10, rfl, t10, T⟩
  have S := (S.call [0] T rfl).pk [0, 2] rfl
  have R10 := t10.rd _ R
  have bR10 := t10.by_ bR
  have cR10 := t10.cap
  have nR10 := t10.len nR
  refine p_val (e_move (v := .pointer _) rfl) rfl ?_
  refine p_does (d_call Try.func104 nm104 rfl rfl (eye_upto _ _ _ _ _ _ _ (S.hr [0] rfl) (S.rdOld R10 rfl) (S.offOld [0] R10 (by decide) Off.nil rfl) bR10 cR10 nR10)) rfl ?_
  rintro _ w ⟨a12, e12, l12, A12, c12, q12, rfl, t12, T⟩
  have S := (S.call [0] T rfl).pk [0, 2] rfl
  have R12 := t12.rd _ R10
  have bR12 := t12.by_ bR10
  have cR12 := t12.cap
  have nR12 := t12.len nR10
  refine p_val (e_move (v := .pointer _) rfl) rfl ?_
  refine p_does (d_call Try.func104 nm104 rfl rfl (eye_upto _ _ _ _ _ _ _ (S.hr [0] rfl) (S.rdOld R12 rfl) (S.offOld [0] R12 (by decide) Off.nil rfl) bR12 cR12 nR12)) rfl ?_
  rintro _ w ⟨a14, e14, l14, A14, c14, q14, rfl, t14, T⟩
  have S := (S.call [0] T rfl).pk [0, 2] rfl
  have R14 := t14.rd _ R12
  have bR14 := t14.by_ bR12
  have cR14 := t14.cap
  have nR14 := t14.len nR12
  refine p_val (e_buildS bt111 (Eq.trans (fill_cat (v := .int _ _) (l' := [[_]]) 0 1 rfl (rfl) (by first | with_reducible assumption | (simp [cat, length_zsum, rcpC, zc111]; done) | (simp [cat, length_zsum, rcpC, zc111]; omega) | rfl) (by first | with_reducible assumption | (simp [cat, length_zsum, rcpC, zc111]; done) | (simp [cat, length_zsum, rcpC, zc111]; omega) | rfl) (by first | with_reducible assumption | (simp [cat, length_zsum, rcpC, zc111]; done) | (simp [cat, length_zsum, rcpC, zc111]; omega) | rfl)) (Eq.trans (fill_cat (v := .int _ _) (l' := [[_]]) 1 1 rfl (rfl) (by first | with_reducible assumption | (simp [cat, length_zsum, rcpC, zc111]; done) | (simp [cat, length_zsum, rcpC, zc111]; omega) | rfl) (by first | with_reducible assumption | (simp [cat, length_zsum, rcpC, zc111]; done) | (simp [cat, length_zsum, rcpC, zc111]; omega) | rfl) (by first | with_reducible assumption | (simp [cat, length_zsum, rcpC, zc111]; done) | (simp [cat, length_zsum, rcpC, zc111]; omega) | rfl)) (Eq.trans (fill_cat (v := .int _ _) (l' := [[_]]) 2 1 rfl (rfl) (by first | with_reducible assumption | (simp [cat, length_zsum, rcpC, zc111]; done) | (simp [cat, length_zsum, rcpC, zc111]; omega) | rfl) (by first | with_reducible assumption | (simp [cat, length_zsum, rcpC, zc111]; done) | (simp [cat, length_zsum, rcpC, zc111]; omega) | rfl) (by first | with_reducible assumption | (simp [cat, length_zsum, rcpC, zc111]; done) | (simp [cat, length_zsum, rcpC, zc111]; omega) | rfl)) rfl)))) rfl ?_
  refine p_does (d_allocA S zs111) rfl ?_
  rintro _ w ⟨b5, rfl, S⟩
  refine p_does (d_storeW S 0 rfl rfl (by first | exact bv_one _ | exact sv_one _ | exact iv_one _ | with_reducible assumption | (refine One.mem ?_; repeat (first | exact One.bv _ | exact One.sv _ | exact One.iv _ | exact One.nil | exact One.cat0 | refine One.cat1 ?_ ?_ | refine One.cons rfl ?_ | refine One.append ?_ ?_))) sz111 (by first | with_reducible assumption | (simp [cat, length_zsum, rcpC, zc111]; done) | (simp [cat, length_zsum, rcpC, zc111]; omega) | rfl) rfl rfl (by first | with_reducible assumption | (simp [cat, length_zsum, rcpC, zc111]; done) | (simp [cat, length_zsum, rcpC, zc111]; omega) | rfl)) rfl ?_
  intro _ w S
  refine p_nil (x_then (s_seq (s_plain ?_)))
  refine p_val (e_move (v := .pointer _) rfl) rfl ?_
  refine p_does (d_call Try.func105 nm105 rfl rfl (eye_sum _ _ _ _ _ _ (S.hr [1] rfl) (S.rdOld R14 rfl) (S.offOld [1] R14 (by decide) Off.nil rfl) bR14 cR14 nR14)) rfl ?_
  rintro _ w ⟨s17, e17, l17, A17, c17, q17, hs17, rfl, t17, T⟩
  have S := (S.call [1] T rfl).pk [1, 0, 3] rfl
  have R17 := t17.rd _ R14
  have bR17 := t17.by_ bR14
  have cR17 := t17.cap
  have nR17 := t17.len nR14
  refine p_val (e_move (v := .pointer _) rfl) rfl ?_
  refine p_does (d_call Try.func105 nm105 rfl rfl (eye_sum _ _ _ _ _ _ (S.hr [1] rfl) (S.rdOld R17 rfl) (S.offOld [1] R17 (by decide) Off.nil rfl) bR17 cR17 nR17)) rfl ?_
  rintro _ w ⟨s19, e19, l19, A19, c19, q19, hs19, rfl, t19, T⟩
  have S := (S.call [1] T rfl).pk [1, 0, 3] rfl
  have R19 := t19.rd _ R17
  have bR19 := t19.by_ bR17
  have cR19 := t19.cap
  have nR19 := t19.len nR17
  refine p_val (e_field rfl Try.underlying111 rfl sz29 (by decide)) rfl ?_
  refine p_does (d_storeFA (off := 3) S 0 3 rfl rfl (by first | exact bv_one _ | exact sv_one _ | exact iv_one _ | with_reducible assumption | (refine One.mem ?_; repeat (first | exact One.bv _ | exact One.sv _ | exact One.iv _ | exact One.nil | exact One.cat0 | refine One.cat1 ?_ ?_ | refine One.cons rfl ?_ | refine One.append ?_ ?_))) sz29 (by simp [hs17]) rfl rfl rfl (by first | with_reducible assumption | (simp [cat, length_zsum, rcpC, zc111]; done) | (simp [cat, length_zsum, rcpC, zc111]; omega) | rfl) (by first | with_reducible assumption | (simp [cat, length_zsum, rcpC, zc111]; done) | (simp [cat, length_zsum, rcpC, zc111]; omega) | rfl)) rfl ?_
  intro _ w S
  refine p_val (e_field rfl Try.underlying111 rfl sz29 (by decide)) rfl ?_
  refine p_does (d_storeFA (off := 35) S 0 4 rfl rfl (by first | exact bv_one _ | exact sv_one _ | exact iv_one _ | with_reducible assumption | (refine One.mem ?_; repeat (first | exact One.bv _ | exact One.sv _ | exact One.iv _ | exact One.nil | exact One.cat0 | refine One.cat1 ?_ ?_ | refine One.cons rfl ?_ | refine One.append ?_ ?_))) sz29 (by simp [hs19]) rfl rfl rfl (by first | with_reducible assumption | (simp [cat, length_zsum, rcpC, zc111]; done) | (simp [cat, length_zsum, rcpC, zc111]; omega) | rfl) (by simp [cat, zc111, hs17, hs19])) rfl ?_
  intro _ w S
  refine p_nil (x_then (s_seq (s_seq (s_plain ?_))))
  refine p_val (e_move (v := .pointer _) rfl) rfl ?_
  refine p_does (d_call Try.func107 nm107 rfl rfl (eye_done _ _ _ _ _ _ (S.hr [1] rfl))) rfl ?_
  rintro _ w ⟨rfl, T⟩
  have S := (S.call [1] T rfl).pk [1, 0, 3] rfl
  refine p_val (e_assign (v := .int _ _) rfl) rfl ?_
  refine p_nil (x_then (s_seq (s_plain ?_)))
  refine p_val (e_move (v := .int _ _) rfl) rfl ?_
  refine p_val (e_neq rfl rfl) rfl ?_
  refine p_nil (x_then ?_)
  refine s_cond rfl (fun hc25 => ?_) (fun hc25 => ?_)
  · have e0 : rRcp l = (Rcp.zero, rDone e19 l19) := by simp only [rRcp, q10, q12, q14, q17, q19, if_neg hc25]
    refine s_seq (s_plain ?_)
    refine p_val (e_buildS0 bt111) rfl ?_
    refine p_val (e_move (v := .int _ _) rfl) rfl ?_
    refine p_does (d_storeW S 2 rfl rfl (by first | exact bv_one _ | exact sv_one _ | exact iv_one _ | with_reducible assumption | (refine One.mem ?_; repeat (first | exact One.bv _ | exact One.sv _ | exact One.iv _ | exact One.nil | exact One.cat0 | refine One.cat1 ?_ ?_ | refine One.cons rfl ?_ | refine One.append ?_ ?_))) sz111 (by first | with_reducible assumption | (simp [cat, length_zsum, rcpC, zc111]; done) | (simp [cat, length_zsum, rcpC, zc111]; omega) | rfl) rfl rfl (by first | with_reducible assumption | (simp [cat, length_zsum, rcpC, zc111]; done) | (simp [cat, length_zsum, rcpC, zc111]; omega) | rfl)) rfl ?_
    intro _ w S
    refine p_val (e_assign (v := .int _ _) rfl) rfl ?_
    refine p_nil (x_then (s_ret (x_then_ret ?_)))
    exact postC1 (v := .int _ _) Try.results108 S 2 rfl rfl rfl rfl ag111 sz111 (by first | with_reducible assumption | (simp [cat, length_zsum, rcpC, zc111]; done) | (simp [cat, length_zsum, rcpC, zc111]; omega) | rfl) (⟨by rw [e0]; rfl, S.to_below⟩)
  · have e0 : rRcp l = (⟨a10, a12, a14, s17, s19⟩, 0) := by simp only [rRcp, q10, q12, q14, q17, q19, if_pos (Classical.not_not.1 hc25)]
    refine s_skip (x_then (s_seq (s_plain ?_)))
    refine p_val (e_loadW 0 rfl ag111 sz111 S rfl rfl (by simp [cat, zc111, hs17, hs19])) rfl ?_
    refine p_does (d_storeW S 2 rfl rfl (by first | exact bv_one _ | exact sv_one _ | exact iv_one _ | with_reducible assumption | (refine One.mem ?_; repeat (first | exact One.bv _ | exact One.sv _ | exact One.iv _ | exact One.nil | exact One.cat0 | refine One.cat1 ?_ ?_ | refine One.cons rfl ?_ | refine One.append ?_ ?_))) sz111 (by simp [cat, zc111, hs17, hs19]) rfl rfl (by first | with_reducible assumption | (simp [cat, length_zsum, rcpC, zc111]; done) | (simp [cat, length_zsum, rcpC, zc111]; omega) | rfl)) rfl ?_
    intro _ w S
    refine p_val (e_assign (v := .int _ _) rfl) rfl ?_
    refine p_nil (x_then (s_ret ?_))
    exact postC1 (v := .int _ _) Try.results108 S 2 rfl rfl rfl rfl ag111 sz111 (by simp [cat, zc111, hs17, hs19]) (⟨by rw [e0]; rfl, S.to_below⟩)
theorem l12right (w0 : World) (r : Rcp) (hr : r.ok) :
    Ret Try.prog 76 [.agg (cat (rcpC r)).toArray] w0 fun v w' => v = .bool (decide r.right) ∧ Below w0.heap.size w0 w' := by
  refine enter Try.func76 rfl Try.ntmps76 (Nat.le_of_ble_eq_true rfl) ?_
  have S := St.init w0
  refine s_seq (s_plain ?_)
  refine p_does (d_boxA S rfl) rfl ?_
  rintro _ w ⟨b1, rfl, S⟩
  refine p_val (e_assign (v := .bool _) rfl) rfl ?_
  refine p_nil (x_then (s_seq ?_))
  refine s_cutK (ks := [some b1]) (ps := [Ex _ _]) [] trivial S (fun keep ks ps f' w' => ∃ u bb, f' = upds u ((2, .bool bb) :: keep) ∧ (bb = true ↔ (((((((0 : Int) ≤ r.t) ∧ (r.t < (16 : Int))) ∧ ((0 : Int) ≤ r.c)) ∧ (r.c ≤ (1048576 : Int))) ∧ ((0 : Int) ≤ r.s)) ∧ (r.s ≤ (1048576 : Int)))) ∧ St w0 w' [] ks ps) ?_ ?_
  · refine s_plain ?_
    refine p_val (e_field rfl Try.underlying111 rfl sz3 (by decide)) rfl ?_
    refine p_val (e_loadF1 (i := 0) (off := 0) rfl ag3 S (j := 0) rfl rfl rfl (by first | with_reducible assumption | (simp [cat, rcpC, hr.1, hr.2]; done) | (simp [cat, rcpC, hr.1, hr.2]; omega) | rfl)) rfl ?_
    refine p_valB (e_geq rfl rfl) rfl (fun hg5 => ?_) (fun hg5 => ?_)
    · refine p_val (e_move (v := .bool _) rfl) rfl ?_
      refine pg_val rfl rfl rfl rfl rfl (e_field rfl Try.underlying111 rfl sz3 (by decide)) ?_
      refine pg_val rfl rfl rfl rfl rfl (e_loadF1 (i := 0) (off := 0) rfl ag3 S (j := 0) rfl rfl rfl (by first | with_reducible assumption | (simp [cat, rcpC, hr.1, hr.2]; done) | (simp [cat, rcpC, hr.1, hr.2]; omega) | rfl)) ?_
      refine pg_valB rfl rfl rfl rfl rfl (e_lss rfl rfl) (fun hg9 => ?_) (fun hg9 => ?_)
      · refine p_val (e_pick_t rfl rfl) rfl ?_
        refine p_val (e_move (v := .bool _) rfl) rfl ?_
        refine pg_val rfl rfl rfl rfl rfl (e_field rfl Try.underlying111 rfl sz3 (by decide)) ?_
        refine pg_val rfl rfl rfl rfl rfl (e_loadF1 (i := 1) (off := 1) rfl ag3 S (j := 0) rfl rfl rfl (by first | with_reducible assumption | (simp [cat, rcpC, hr.1, hr.2]; done) | (simp [cat, rcpC, hr.1, hr.2]; omega) | rfl)) ?_
        refine pg_valB rfl rfl rfl rfl rfl (e_geq rfl rfl) (fun hg14 => ?_) (fun hg14 => ?_)
        · refine p_val (e_pick_t rfl rfl) rfl ?_
          refine p_val (e_move (v := .bool _) rfl) rfl ?_
          refine pg_val rfl rfl rfl rfl rfl (e_field rfl Try.underlying111 rfl sz3 (by decide)) ?_
          refine pg_val rfl rfl rfl rfl rfl (e_loadF1 (i := 1) (off := 1) rfl ag3 S (j := 0) rfl rfl rfl (by first | with_reducible assumption | (simp [cat, rcpC, hr.1, hr.2]; done) | (simp [cat, rcpC, hr.1, hr.2]; omega) | rfl)) ?_
          refine pg_valB rfl rfl rfl rfl rfl (e_leq rfl rfl) (fun hg19 => ?_) (fun hg19 => ?_)
          · refine p_val (e_pick_t rfl rfl) rfl ?_
            refine p_val (e_move (v := .bool _) rfl) rfl ?_
            refine pg_val rfl rfl rfl rfl rfl (e_field rfl Try.underlying111 rfl sz3 (by decide)) ?_
            refine pg_val rfl rfl rfl rfl rfl (e_loadF1 (i := 2) (off := 2) rfl ag3 S (j := 0) rfl rfl rfl (by first | with_reducible assumption | (simp [cat, rcpC, hr.1, hr.2]; done) | (simp [cat, rcpC, hr.1, hr.2]; omega) | rfl)) ?_
            refine pg_valB rfl rfl rfl rfl rfl (e_geq rfl rfl) (fun hg24 => ?_) (fun hg24 => ?_)
            · refine p_val (e_pick_t rfl rfl) rfl ?_
              refine p_val (e_move (v := .bool _) rfl) rfl ?_
              refine pg_val rfl rfl rfl rfl rfl (e_field rfl Try.underlying111 rfl sz3 (by decide)) ?_
              refine pg_val rfl rfl rfl rfl rfl (e_loadF1 (i := 2) (off := 2) rfl ag3 S (j := 0) rfl rfl rfl (by first | with_reducible assumption | (simp [cat, rcpC, hr.1, hr.2]; done) | (simp [cat, rcpC, hr.1, hr.2]; omega) | rfl)) ?_
              refine pg_val rfl rfl rfl rfl rfl (e_leq rfl rfl) ?_
              refine p_val (e_pick_t rfl rfl) rfl ?_
              refine p_val (e_assign (v := .bool _) rfl) rfl ?_
              exact p_nil (x_then ⟨_, rfl, _, _, upds_eq ⟨rfl, trivial⟩, by first | (simp only [decide_eq_true_eq, eq_self, true_iff, iff_true, iff_false, Bool.false_eq_true, false_iff, ge_iff_le, gt_iff_lt, true_and, and_true, false_and, and_false, true_or, or_true, false_or, or_false, not_true_eq_false, not_false_eq_true]; omega) | simp | omega | simp_all, S⟩)
            · refine p_val (e_pick_t rfl rfl) rfl ?_
              refine p_val (e_move (v := .bool _) rfl) rfl ?_
              refine p_no rfl rfl rfl rfl rfl ?_
              refine p_no rfl rfl rfl rfl rfl ?_
              refine p_no rfl rfl rfl rfl rfl ?_
              refine p_val (e_pick_f rfl rfl) rfl ?_
              refine p_val (e_assign (v := .bool _) rfl) rfl ?_
              exact p_nil (x_then ⟨_, rfl, _, _, upds_eq ⟨rfl, trivial⟩, by first | (simp only [decide_eq_true_eq, eq_self, true_iff, iff_true, iff_false, Bool.false_eq_true, false_iff, ge_iff_le, gt_iff_lt, true_and, and_true, false_and, and_false, true_or, or_true, false_or, or_false, not_true_eq_false, not_false_eq_true]; omega) | simp | omega | simp_all, S⟩)
          · refine p_val (e_pick_t rfl rfl) rfl ?_
            refine p_val (e_move (v := .bool _) rfl) rfl ?_
            refine p_no rfl rfl rfl rfl rfl ?_
            refine p_no rfl rfl rfl rfl rfl ?_
            refine p_no rfl rfl rfl rfl rfl ?_
            refine p_val (e_pick_f rfl rfl) rfl ?_
            refine p_val (e_move (v := .bool _) rfl) rfl ?_
            refine p_no rfl rfl rfl rfl rfl ?_
            refine p_no rfl rfl rfl rfl rfl ?_
            refine p_no rfl rfl rfl rfl rfl ?_
            refine p_val (e_pick_f rfl rfl) rfl ?_
            refine p_val (e_assign (v := .bool _) rfl) rfl ?_
            exact p_nil (x_then ⟨_, rfl, _, _, upds_eq ⟨rfl, trivial⟩, by first | (simp only [decide_eq_true_eq, eq_self, true_iff, iff_true, iff_false, Bool.false_eq_true, false_iff, ge_iff_le, gt_iff_lt, true_and, and_true, false_and, and_false, true_or, or_true, false_or, or_false, not_true_eq_false, not_false_eq_true]; omega) | simp | omega | simp_all, S⟩)
        · refine p_val (e_pick_t rfl rfl) rfl ?_
          refine p_val (e_move (v := .bool _) rfl) rfl ?_
          refine p_no rfl rfl rfl rfl rfl ?_
          refine p_no rfl rfl rfl rfl rfl ?_
          refine p_no rfl rfl rfl rfl rfl ?_
          refine p_val (e_pick_f rfl rfl) rfl ?_
          refine p_val (e_move (v := .bool _) rfl) rfl ?_
          refine p_no rfl rfl rfl rfl rfl ?_
          refine p_no rfl rfl rfl rfl rfl ?_
          refine p_no rfl rfl rfl rfl rfl ?_
          refine p_val (e_pick_f rfl rfl) rfl ?_
          refine p_val (e_move (v := .bool _) rfl) rfl ?_
          refine p_no rfl rfl rfl rfl rfl ?_
          refine p_no rfl rfl rfl rfl rfl ?_
          refine p_no rfl rfl rfl rfl rfl ?_
          refine p_val (e_pick_f rfl rfl) rfl ?_
          refine p_val (e_assign (v := .bool _) rfl) rfl ?_
          exact p_nil (x_then ⟨_, rfl, _, _, upds_eq ⟨rfl, trivial⟩, by first | (simp only [decide_eq_true_eq, eq_self, true_iff, iff_true, iff_false, Bool.false_eq_true, false_iff, ge_iff_le, gt_iff_lt, true_and, and_true, false_and, and_false, true_or, or_true, false_or, or_false, not_true_eq_false, not_false_eq_true]; omega) | simp | omega | simp_all, S⟩)
      · refine p_val (e_pick_t rfl rfl) rfl ?_
        refine p_val (e_move (v := .bool _) rfl) rfl ?_
        refine p_no rfl rfl rfl rfl rfl ?_
        refine p_no rfl rfl rfl rfl rfl ?_
        refine p_no rfl rfl rfl rfl rfl ?_
        refine p_val (e_pick_f rfl rfl) rfl ?_
        refine p_val (e_move (v := .bool _) rfl) rfl ?_
        refine p_no rfl rfl rfl rfl rfl ?_
        refine p_no rfl rfl rfl rfl rfl ?_
        refine p_no rfl rfl rfl rfl rfl ?_
        refine p_val (e_pick_f rfl rfl) rfl ?_
        refine p_val (e_move (v := .bool _) rfl) rfl ?_
        refine p_no rfl rfl rfl rfl rfl ?_
        refine p_no rfl rfl rfl rfl rfl ?_
        refine p_no rfl rfl rfl rfl rfl ?_
        refine p_val (e_pick_f rfl rfl) rfl ?_
        refine p_val (e_move (v := .bool _) rfl) rfl ?_
        refine p_no rfl rfl rfl rfl rfl ?_
        refine p_no rfl rfl rfl rfl rfl ?_
        refine p_no rfl rfl rfl rfl rfl ?_
        refine p_val (e_pick_f rfl rfl) rfl ?_
        refine p_val (e_assign (v := .bool _) rfl) rfl ?_
        exact p_nil (x_then ⟨_, rfl, _, _, upds_eq ⟨rfl, trivial⟩, by first | (simp only [decide_eq_true_eq, eq_self, true_iff, iff_true, iff_false, Bool.false_eq_true, false_iff, ge_iff_le, gt_iff_lt, true_and, and_true, false_and, and_false, true_or, or_true, false_or, or_false, not_true_eq_false, not_false_eq_true]; omega) | simp | omega | simp_all, S⟩)
    · refine p_val (e_move (v := .bool _) rfl) rfl ?_
      refine p_no rfl rfl rfl rfl rfl ?_
      refine p_no rfl rfl rfl rfl rfl ?_
      refine p_no rfl rfl rfl rfl rfl ?_
      refine p_val (e_pick_f rfl rfl) rfl ?_
      refine p_val (e_move (v := .bool _) rfl) rfl ?_
      refine p_no rfl rfl rfl rfl rfl ?_
      refine p_no rfl rfl rfl rfl rfl ?_
      refine p_no rfl rfl rfl rfl rfl ?_
      refine p_val (e_pick_f rfl rfl) rfl ?_
      refine p_val (e_move (v := .bool _) rfl) rfl ?_
      refine p_no rfl rfl rfl rfl rfl ?_
      refine p_no rfl rfl rfl rfl rfl ?_
      refine p_no rfl rfl rfl rfl rfl ?_
      refine p_val (e_pick_f rfl rfl) rfl ?_
      refine p_val (e_move (v := .bool _) rfl) rfl ?_
      refine p_no rfl rfl rfl rfl rfl ?_
      refine p_no rfl rfl rfl rfl rfl ?_
      refine p_no rfl rfl rfl rfl rfl ?_
      refine p_val (e_pick_f rfl rfl) rfl ?_
      refine p_val (e_move (v := .bool _) rfl) rfl ?_
      refine p_no rfl rfl rfl rfl rfl ?_
      refine p_no rfl rfl rfl rfl rfl ?_
      refine p_no rfl rfl rfl rfl rfl ?_
      refine p_val (e_pick_f rfl rfl) rfl ?_
      refine p_val (e_assign (v := .bool _) rfl) rfl ?_
      exact p_nil (x_then ⟨_, rfl, _, _, upds_eq ⟨rfl, trivial⟩, by first | (simp only [decide_eq_true_eq, eq_self, true_iff, iff_true, iff_false, Bool.false_eq_true, false_iff, ge_iff_le, gt_iff_lt, true_and, and_true, false_and, and_false, true_or, or_true, false_or, or_false, not_true_eq_false, not_false_eq_true]; omega) | simp | omega | simp_all, S⟩)
  · rintro f w ⟨u, b2, rfl, hb2, S⟩
    refine x_then (s_ret ?_)
    exact post1 (v := .bool _) Try.results76 rfl (⟨by congr 1; exact Bool.eq_iff_iff.2 (hb2.trans (Iff.trans (by unfold Rcp.right; omega) decide_eq_true_iff.symm)), S.to_below⟩)
theorem l12text (w0 : World) (r : Rcp) (hr : r.ok) :
    Ret Try.prog 79 [.agg (cat (rcpC r)).toArray] w0 fun v w' => ∃ k c, v = .slice (at_ k) (rtext r).length c ∧ St w0 w' [] [k] [Rw 5 1 (rtext r).length c (bv (rtext r))] := by
  refine enter Try.func79 rfl Try.ntmps79 (Nat.le_of_ble_eq_true rfl) ?_
  have S := St.init w0
  have h1 := num_len r.t
  have h2 := num_len r.c
  have h3 := num_len r.s
  refine s_seq (s_plain ?_)
  refine p_does (d_boxA S rfl) rfl ?_
  rintro _ w ⟨b1, rfl, S⟩
  refine p_val (e_assign (v := .slice _ _ _) rfl) rfl ?_
  refine p_nil (x_then (s_seq (s_plain ?_)))
  refine p_does (d_allocA S zs98) rfl ?_
  rintro _ w ⟨b3, rfl, S⟩
  have S := pen_new S
  refine p_nil (x_then (s_seq ?_))
  refine s_drawK (ks := [some b1]) (ps := [Ex _ _]) (S.pk [2] rfl) [(true, 0), (true, 1), (true, 3), (true, 4), (true, 6), (true, 7), (true, 9), (true, 10), (true, 12), (true, 13), (false, 2), (false, 5), (false, 8), (false, 11), (false, 14), (false, 15)] [16] [16] mixed (by kernel_rfl) (by repeat (first | exact Calm.post _ _ _ | refine Calm.then ?_ _ | refine Calm.inB ?_ _)) (fun hS => ?_)
  have S := S.drew
  refine q_val (fun w hS => e_field rfl Try.underlying111 rfl sz3 (by decide)) rfl hS ?_
  refine q_val (fun w hS => e_loadF1 (i := 0) (off := 0) rfl ag3 hS (j := 0) rfl rfl rfl (by first | with_reducible assumption | (simp [cat, rcpC, hr.1, hr.2]; done) | (simp [cat, rcpC, hr.1, hr.2]; omega) | rfl)) rfl hS ?_
  refine q_val (fun w hS => e_field rfl Try.underlying111 rfl sz3 (by decide)) rfl hS ?_
  refine q_val (fun w hS => e_loadF1 (i := 1) (off := 1) rfl ag3 hS (j := 0) rfl rfl rfl (by first | with_reducible assumption | (simp [cat, rcpC, hr.1, hr.2]; done) | (simp [cat, rcpC, hr.1, hr.2]; omega) | rfl)) rfl hS ?_
  refine q_val (fun w hS => e_field rfl Try.underlying111 rfl sz3 (by decide)) rfl hS ?_
  refine q_val (fun w hS => e_loadF1 (i := 2) (off := 2) rfl ag3 hS (j := 0) rfl rfl rfl (by first | with_reducible assumption | (simp [cat, rcpC, hr.1, hr.2]; done) | (simp [cat, rcpC, hr.1, hr.2]; omega) | rfl)) rfl hS ?_
  refine q_val (fun w hS => e_field rfl Try.underlying111 rfl sz29 (by decide)) rfl hS ?_
  refine q_val (fun w hS => e_loadFA (i := 3) (off := 3) rfl ag29 sz29 (by decide) hS (j := 0) rfl rfl rfl (by first | with_reducible assumption | (simp [cat, rcpC, hr.1, hr.2]; done) | (simp [cat, rcpC, hr.1, hr.2]; omega) | rfl) (by first | with_reducible assumption | (simp [cat, rcpC, hr.1, hr.2]; done) | (simp [cat, rcpC, hr.1, hr.2]; omega) | rfl)) rfl hS ?_
  refine q_val (fun w hS => e_field rfl Try.underlying111 rfl sz29 (by decide)) rfl hS ?_
  refine q_val (fun w hS => e_loadFA (i := 4) (off := 35) rfl ag29 sz29 (by decide) hS (j := 0) rfl rfl rfl (by first | with_reducible assumption | (simp [cat, rcpC, hr.1, hr.2]; done) | (simp [cat, rcpC, hr.1, hr.2]; omega) | rfl) (by first | with_reducible assumption | (simp [cat, rcpC, hr.1, hr.2]; done) | (simp [cat, rcpC, hr.1, hr.2]; omega) | rfl)) rfl hS ?_
  refine q_does (d_call Try.func90 nm90 rfl rfl (pen_num _ _ _ _ _ _ (S.hr [0, 1] rfl) (by first | omega | (simp only [List.length_append, List.length_cons, List.length_nil, bv_length, rcpC, hr.1, hr.2]; omega) | (simp [cat, rcpC, hr.1, hr.2]; omega)))) rfl ?_
  rintro _ w ⟨rfl, k6, c6, T⟩
  have S := (S.call [0, 1] T rfl).pk [0, 1, 4] rfl
  have hS := S.pk [2] rfl
  refine ⟨hS, ?_⟩
  refine q_does (d_call Try.func90 nm90 rfl rfl (pen_num _ _ _ _ _ _ (S.hr [0, 1] rfl) (by first | omega | (simp only [List.length_append, List.length_cons, List.length_nil, bv_length, rcpC, hr.1, hr.2]; omega) | (simp [cat, rcpC, hr.1, hr.2]; omega)))) rfl ?_
  rintro _ w ⟨rfl, k9, c9, T⟩
  have S := (S.call [0, 1] T rfl).pk [0, 1, 4] rfl
  have hS := S.pk [2] rfl
  refine ⟨hS, ?_⟩
  refine q_does (d_call Try.func90 nm90 rfl rfl (pen_num _ _ _ _ _ _ (S.hr [0, 1] rfl) (by first | omega | (simp only [List.length_append, List.length_cons, List.length_nil, bv_length, rcpC, hr.1, hr.2]; omega) | (simp [cat, rcpC, hr.1, hr.2]; omega)))) rfl ?_
  rintro _ w ⟨rfl, k12, c12, T⟩
  have S := (S.call [0, 1] T rfl).pk [0, 1, 4] rfl
  have hS := S.pk [2] rfl
  refine ⟨hS, ?_⟩
  refine q_does (d_call Try.func65 nm65 rfl rfl (pen_sum _ _ _ _ _ _ (S.hr [0, 1] rfl) (by first | with_reducible assumption | (simp [cat, rcpC, hr.1, hr.2]; done) | (simp [cat, rcpC, hr.1, hr.2]; omega) | rfl) (by first | omega | (simp only [List.length_append, List.length_cons, List.length_nil, bv_length, rcpC, hr.1, hr.2]; omega) | (simp [cat, rcpC, hr.1, hr.2]; omega)))) rfl ?_
  rintro _ w ⟨rfl, k15, c15, T⟩
  have S := (S.call [0, 1] T rfl).pk [0, 1, 4] rfl
  have hS := S.pk [2] rfl
  refine ⟨hS, ?_⟩
  refine q_does (d_call Try.func65 nm65 rfl rfl (pen_sum _ _ _ _ _ _ (S.hr [0, 1] rfl) (by first | with_reducible assumption | (simp [cat, rcpC, hr.1, hr.2]; done) | (simp [cat, rcpC, hr.1, hr.2]; omega) | rfl) (by first | omega | (simp only [List.length_append, List.length_cons, List.length_nil, bv_length, rcpC, hr.1, hr.2]; omega) | (simp [cat, rcpC, hr.1, hr.2]; omega)))) rfl ?_
  rintro _ w ⟨rfl, k18, c18, T⟩
  have S := (S.call [0, 1] T rfl).pk [0, 1, 4] rfl
  have hS := S.pk [2] rfl
  refine ⟨hS, ?_⟩
  refine q_does (d_call Try.func67 nm67 rfl rfl (pen_bytes _ _ _ _ _ (S.exact_ 0 rfl rfl) (S.rdRw 1 rfl rfl) (by first | omega | (simp only [List.length_append, List.length_cons, List.length_nil, bv_length, rcpC, hr.1, hr.2]; omega) | (simp [cat, rcpC, hr.1, hr.2]; omega)))) rfl ?_
  rintro _ w ⟨k19, c19, rfl, T⟩
  have S := S.merge T rfl
  have hS := S.pk [3] rfl
  refine ⟨hS, ?_⟩
  refine q_nil ?_
  refine p_val (e_assign (v := .slice _ _ _) rfl) rfl ?_
  refine p_nil (x_then (s_ret ?_))
  exact post1 (v := .slice _ _ _) Try.results79 rfl (by have e : [] ++ num r.t ++ num r.c ++ num r.s ++ r.h ++ r.b = rtext r := by { simp [rtext] }; rw [← e]; exact ⟨_, _, rfl, S.pk [0] rfl⟩)
end Go.Proofs.Ytdhfiamgmokfbaa

/- Receipts that are signed: their bytes, and what is read of bytes. It proves no statement by itself. -/
set_option linter.unusedSimpArgs false
set_option linter.unusedVariables false
set_option maxRecDepth 100000
set_option maxHeartbeats 1000000
namespace Go.Proofs.Ytdhfiamgmokfbaa
open Go Go.RowKit E
attribute [local irreducible] wpList seqH treeH
def sgdC (r : Rcp) (A : Option Addr) (n c : Nat) : List (List Value) := [[.int .i64 r.t], [.int .i64 r.c], [.int .i64 r.s], bv r.h, bv r.b, [.slice A n c]]
def sput (r : Rcp) (s : List Nat) : List Nat := num (rtext r).length ++ rtext r ++ num s.length ++ s
def rSgd (l : List Nat) : Rcp × List Nat × Int :=
  let a := rText 65536 0 l
  let b := rText 65536 a.2.1 a.2.2
  let e := rDone b.2.1 b.2.2
  if e = 0 then (if (rRcp a.1).2 = 0 then ((rRcp a.1).1, b.1, 0) else (Rcp.zero, [], (rRcp a.1).2)) else (Rcp.zero, [], e)
theorem rcp_ok (l : List Nat) : (rRcp l).1.ok := by
  have hs : ∀ e l, (rSum e l).1.length = 32 := fun e l => length_sum32 _
  unfold rRcp
  simp only
  split
  · exact ⟨hs _ _, hs _ _⟩
  · exact ⟨length_zsum, length_zsum⟩
theorem sg_put (w0 : World) (r : Rcp) (A : Option Addr) (c : Nat) (s : List Nat) (hr : r.ok) (R : Rd w0 1 A s.length (bv s)) (nR : s.length ≤ 1099510000000) :
    Ret Try.prog 94 [.agg (cat (sgdC r A s.length c)).toArray] w0 fun v w' => ∃ k c, v = .slice (at_ k) (sput r s).length c ∧ St w0 w' [] [k] [Rw 5 1 (sput r s).length c (bv (sput r s))] := by
  refine enter Try.func94 rfl Try.ntmps94 (Nat.le_of_ble_eq_true rfl) ?_
  have S := St.init w0
  have h1 := rtext_len hr
  have h2 := num_len (rtext r).length
  have h3 := num_len s.length
  refine s_seq (s_plain ?_)
  refine p_does (d_boxA S rfl) rfl ?_
  rintro _ w ⟨b1, rfl, S⟩
  refine p_val (e_assign (v := .slice _ _ _) rfl) rfl ?_
  refine p_nil (x_then (s_seq (s_plain ?_)))
  refine p_does (d_allocA S zs98) rfl ?_
  rintro _ w ⟨b3, rfl, S⟩
  have S := pen_new S
  refine p_nil (x_then (s_seq ?_))
  refine s_drawK (ks := [some b1]) (ps := [Ex _ _]) (S.pk [2] rfl) [(true, 0), (true, 1), (true, 4), (true, 5), (false, 2), (false, 3), (false, 6), (false, 7)] [8] [8] mixed (by kernel_rfl) (by repeat (first | exact Calm.post _ _ _ | refine Calm.then ?_ _ | refine Calm.inB ?_ _)) (fun hS => ?_)
  have S := S.drew
  refine q_val (fun w hS => e_field rfl Try.underlying115 rfl sz111 (by decide)) rfl hS ?_
  refine q_val (fun w hS => e_loadFS (i := 0) (n := 5) (off := 0) rfl ag111 sz111 (by decide) hS (j := 0) rfl rfl (by first | with_reducible assumption | (rw [bv_length]; with_reducible assumption) | (rw [List.size_toArray, bv_length]; with_reducible assumption) | (simp [cat, sgdC, hr.1, hr.2]; done) | (simp [cat, sgdC, hr.1, hr.2]; omega) | rfl) (by first | with_reducible assumption | (rw [bv_length]; with_reducible assumption) | (rw [List.size_toArray, bv_length]; with_reducible assumption) | (simp [cat, sgdC, hr.1, hr.2]; done) | (simp [cat, sgdC, hr.1, hr.2]; omega) | rfl)) rfl hS ?_
  refine q_val (fun w hS => e_field rfl Try.underlying115 rfl sz33 (by decide)) rfl hS ?_
  refine q_val (fun w hS => e_loadF1 (i := 5) (off := 67) rfl ag33 hS (j := 0) rfl rfl rfl (by first | with_reducible assumption | (rw [bv_length]; with_reducible assumption) | (rw [List.size_toArray, bv_length]; with_reducible assumption) | (simp [cat, sgdC, hr.1, hr.2]; done) | (simp [cat, sgdC, hr.1, hr.2]; omega) | rfl)) rfl hS ?_
  refine q_does (d_call Try.func96 nm96 rfl rfl (rc_text _ r hr)) rfl ?_
  rintro _ w ⟨k6, c6, rfl, T⟩
  have S := S.merge T rfl
  have hS := S.pk [3] rfl
  refine ⟨hS, ?_⟩
  refine q_does (d_call Try.func66 nm66 rfl rfl (pen_text _ _ _ _ _ _ _ _ _ (S.hr [1, 2] rfl) (S.rdRw 0 rfl rfl) (S.offRow 0 [1, 2] rfl rfl) (by first | omega | (simp only [List.length_append, List.length_cons, List.length_nil, bv_length, sgdC, hr.1, hr.2]; omega) | (simp [cat, sgdC, hr.1, hr.2]; omega)))) rfl ?_
  rintro _ w ⟨rfl, k7, c7, T⟩
  have S := (S.call [1, 2] T rfl).pk [2, 0, 1, 5] rfl
  have hS := S.pk [3] rfl
  refine ⟨hS, ?_⟩
  refine q_does (d_call Try.func66 nm66 rfl rfl (pen_text _ _ _ _ _ _ _ _ _ (S.hr [1, 2] rfl) (S.rdOld R rfl) (S.offOld [1, 2] R (by decide) Off.nil rfl) (by first | omega | (simp only [List.length_append, List.length_cons, List.length_nil, bv_length, sgdC, hr.1, hr.2]; omega) | (simp [cat, sgdC, hr.1, hr.2]; omega)))) rfl ?_
  rintro _ w ⟨rfl, k10, c10, T⟩
  have S := (S.call [1, 2] T rfl).pk [2, 0, 1, 5] rfl
  have hS := S.pk [3] rfl
  refine ⟨hS, ?_⟩
  refine q_does (d_call Try.func67 nm67 rfl rfl (pen_bytes _ _ _ _ _ (S.exact_ 1 rfl rfl) (S.rdRw 2 rfl rfl) (by first | omega | (simp only [List.length_append, List.length_cons, List.length_nil, bv_length, sgdC, hr.1, hr.2]; omega) | (simp [cat, sgdC, hr.1, hr.2]; omega)))) rfl ?_
  rintro _ w ⟨k11, c11, rfl, T⟩
  have S := S.merge T rfl
  have hS := S.pk [4] rfl
  refine ⟨hS, ?_⟩
  refine q_nil ?_
  refine p_val (e_assign (v := .slice _ _ _) rfl) rfl ?_
  refine p_nil (x_then (s_ret ?_))
  exact post1 (v := .slice _ _ _) Try.results94 rfl (by have e : [] ++ num (rtext r).length ++ rtext r ++ num s.length ++ s = sput r s := by { simp [sput] }; rw [← e]; exact ⟨_, _, rfl, S.pk [0] rfl⟩)
theorem sg_get (w0 : World) (A : Option Addr) (c : Nat) (l : List Nat) (R : Rd w0 1 A l.length (bv l)) (bR : Bytes l) (cR : l.length ≤ c) (nR : l.length ≤ 1099511000000) :
    Ret Try.prog 93 [.slice A l.length c] w0 fun v w' => ∃ k c2, v = .tuple #[.agg (cat (sgdC (rSgd l).1 (at_ k) (rSgd l).2.1.length c2)).toArray, .int .i64 (rSgd l).2.2] ∧ St w0 w' [] [k] [Rw 5 1 (rSgd l).2.1.length c2 (bv (rSgd l).2.1)] := by
  refine enter Try.func93 rfl Try.ntmps93 (Nat.le_of_ble_eq_true rfl) ?_
  have S := St.init w0
  refine s_seq (s_plain ?_)
  refine p_does (d_allocA S zs115) rfl ?_
  rintro _ w ⟨b2, rfl, S⟩
  refine p_val (e_assign (v := .int _ _) rfl) rfl ?_
  refine p_nil (x_then (s_seq (s_plain ?_)))
  refine p_val (e_move (v := .slice _ _ _) rfl) rfl ?_
  refine p_does (d_call Try.func103 nm103 rfl rfl (eye_look _ _ _ _)) rfl ?_
  rintro _ w ⟨b11, rfl, T⟩
  have S := S.merge T rfl
  refine p_val (e_assign (v := .pointer _) rfl) rfl ?_
  refine p_nil (x_then (s_seq (s_plain ?_)))
  refine p_val (e_move (v := .pointer _) rfl) rfl ?_
  refine p_does (d_call Try.func106 nm106 rfl rfl (eye_text _ _ _ _ _ _ _ (S.hr [0] rfl) (S.rdOld R rfl) (S.offOld [0] R (by decide) Off.nil rfl) bR cR nR)) rfl ?_
  rintro _ w ⟨k13, cc13, s13, e13, l13, A13, c13, q13, rfl, t13, T⟩
  have S := (S.call [0] T rfl).pk [0, 1, 3] rfl
  have R13 := t13.rd _ R
  have bR13 := t13.by_ bR
  have cR13 := t13.cap
  have nR13 := t13.len nR
  refine p_val (e_move (v := .pointer _) rfl) rfl ?_
  refine p_does (d_call Try.func106 nm106 rfl rfl (eye_text _ _ _ _ _ _ _ (S.hr [1] rfl) (S.rdOld R13 rfl) (S.offOld [1] R13 (by decide) Off.nil rfl) bR13 cR13 nR13)) rfl ?_
  rintro _ w ⟨k15, cc15, s15, e15, l15, A15, c15, q15, rfl, t15, T⟩
  have S := (S.call [1] T rfl).pk [0, 2, 1, 4] rfl
  have R15 := t15.rd _ R13
  have bR15 := t15.by_ bR13
  have cR15 := t15.cap
  have nR15 := t15.len nR13
  have hok := rcp_ok s13
  have bs13 : Bytes s13 := rText_bytes bR q13
  have ns13 := rText_len (by decide) q13
  refine p_val (e_assign (v := .slice _ _ _) rfl) rfl ?_
  refine p_val (e_assign (v := .slice _ _ _) rfl) rfl ?_
  refine p_nil (x_then (s_seq (s_seq (s_plain ?_))))
  refine p_val (e_move (v := .pointer _) rfl) rfl ?_
  refine p_does (d_call Try.func107 nm107 rfl rfl (eye_done _ _ _ _ _ _ (S.hr [2] rfl))) rfl ?_
  rintro _ w ⟨rfl, T⟩
  have S := (S.call [2] T rfl).pk [1, 2, 0, 4] rfl
  refine p_val (e_assign (v := .int _ _) rfl) rfl ?_
  refine p_nil (x_then (s_seq (s_plain ?_)))
  refine p_val (e_move (v := .int _ _) rfl) rfl ?_
  refine p_val (e_neq rfl rfl) rfl ?_
  refine p_nil (x_then ?_)
  refine s_cond rfl (fun hc19 => ?_) (fun hc19 => ?_)
  · have e0 : rSgd l = (Rcp.zero, [], rDone e15 l15) := by simp only [rSgd, q13, q15, if_neg hc19]
    refine s_seq (s_plain ?_)
    refine p_val (e_buildS0 bt115) rfl ?_
    refine p_val (e_move (v := .int _ _) rfl) rfl ?_
    refine p_does (d_storeW S 3 rfl rfl (by first | exact bv_one _ | exact sv_one _ | exact iv_one _ | with_reducible assumption | (refine One.mem ?_; repeat (first | exact One.bv _ | exact One.sv _ | exact One.iv _ | exact One.nil | exact One.cat0 | refine One.cat1 ?_ ?_ | refine One.cons rfl ?_ | refine One.append ?_ ?_))) sz115 (by first | with_reducible assumption | (rw [bv_length]; with_reducible assumption) | (rw [List.size_toArray, bv_length]; with_reducible assumption) | (simp [cat, length_zsum, sgdC, rcpC, hok.1, hok.2, zc111, zc115]; done) | (simp [cat, length_zsum, sgdC, rcpC, hok.1, hok.2, zc111, zc115]; omega) | rfl) rfl rfl (by first | with_reducible assumption | (rw [bv_length]; with_reducible assumption) | (rw [List.size_toArray, bv_length]; with_reducible assumption) | (simp [cat, length_zsum, sgdC, rcpC, hok.1, hok.2, zc111, zc115]; done) | (simp [cat, length_zsum, sgdC, rcpC, hok.1, hok.2, zc111, zc115]; omega) | rfl)) rfl ?_
    intro _ w S
    refine p_val (e_assign (v := .int _ _) rfl) rfl ?_
    refine p_nil (x_then (s_ret (x_then_ret ?_)))
    exact postC1 (v := .int _ _) Try.results93 S 3 rfl rfl rfl rfl ag115 sz115 (by first | with_reducible assumption | (rw [bv_length]; with_reducible assumption) | (rw [List.size_toArray, bv_length]; with_reducible assumption) | (simp [cat, length_zsum, sgdC, rcpC, hok.1, hok.2, zc111, zc115]; done) | (simp [cat, length_zsum, sgdC, rcpC, hok.1, hok.2, zc111, zc115]; omega) | rfl) (by rw [e0]; exact ⟨none, 0, rfl, S.none_.addNil 5 1⟩)
  · refine s_skip (x_then (s_seq (s_plain ?_)))
    refine p_val (e_move (v := .slice _ _ _) rfl) rfl ?_
    refine p_does (d_call Try.func108 nm108 rfl rfl (rc_read _ _ _ _ (S.rdRw 1 rfl rfl) (bs13) (S.capRw 1 rfl rfl) (by first | omega | (simp only [List.length_append, List.length_cons, List.length_nil, bv_length, length_zsum, sgdC, rcpC, hok.1, hok.2, zc111, zc115]; omega) | (simp [cat, length_zsum, sgdC, rcpC, hok.1, hok.2, zc111, zc115]; omega)))) rfl ?_
    rintro _ w ⟨rfl, hB⟩
    have S := S.below hB
    refine p_val (e_move (v := .tuple _) rfl) rfl ?_
    refine p_val (e_extract rfl rfl) rfl ?_
    refine p_val (e_extract rfl rfl) rfl ?_
    refine p_does (d_allocA S zs111) rfl ?_
    rintro _ w ⟨b8, rfl, S⟩
    refine p_does (d_storeW S 0 rfl rfl (by first | exact bv_one _ | exact sv_one _ | exact iv_one _ | with_reducible assumption | (refine One.mem ?_; repeat (first | exact One.bv _ | exact One.sv _ | exact One.iv _ | exact One.nil | exact One.cat0 | refine One.cat1 ?_ ?_ | refine One.cons rfl ?_ | refine One.append ?_ ?_))) sz111 (by first | with_reducible assumption | (rw [bv_length]; with_reducible assumption) | (rw [List.size_toArray, bv_length]; with_reducible assumption) | (simp [cat, length_zsum, sgdC, rcpC, hok.1, hok.2, zc111, zc115]; done) | (simp [cat, length_zsum, sgdC, rcpC, hok.1, hok.2, zc111, zc115]; omega) | rfl) rfl rfl (by first | with_reducible assumption | (rw [bv_length]; with_reducible assumption) | (rw [List.size_toArray, bv_length]; with_reducible assumption) | (simp [cat, length_zsum, sgdC, rcpC, hok.1, hok.2, zc111, zc115]; done) | (simp [cat, length_zsum, sgdC, rcpC, hok.1, hok.2, zc111, zc115]; omega) | rfl)) rfl ?_
    intro _ w S
    refine p_val (e_assign (v := .int _ _) rfl) rfl ?_
    refine p_nil (x_then (s_seq (s_seq (s_plain ?_))))
    refine p_val (e_move (v := .int _ _) rfl) rfl ?_
    refine p_val (e_neq rfl rfl) rfl ?_
    refine p_nil (x_then ?_)
    refine s_cond rfl (fun hc28 => ?_) (fun hc28 => ?_)
    · have e0 : rSgd l = (Rcp.zero, [], (rRcp s13).2) := by simp only [rSgd, q13, q15, if_pos (Classical.not_not.1 hc19), if_neg hc28]
      refine s_seq (s_plain ?_)
      refine p_val (e_buildS0 bt115) rfl ?_
      refine p_val (e_move (v := .int _ _) rfl) rfl ?_
      refine p_does (d_storeW S 4 rfl rfl (by first | exact bv_one _ | exact sv_one _ | exact iv_one _ | with_reducible assumption | (refine One.mem ?_; repeat (first | exact One.bv _ | exact One.sv _ | exact One.iv _ | exact One.nil | exact One.cat0 | refine One.cat1 ?_ ?_ | refine One.cons rfl ?_ | refine One.append ?_ ?_))) sz115 (by first | with_reducible assumption | (rw [bv_length]; with_reducible assumption) | (rw [List.size_toArray, bv_length]; with_reducible assumption) | (simp [cat, length_zsum, sgdC, rcpC, hok.1, hok.2, zc111, zc115]; done) | (simp [cat, length_zsum, sgdC, rcpC, hok.1, hok.2, zc111, zc115]; omega) | rfl) rfl rfl (by first | with_reducible assumption | (rw [bv_length]; with_reducible assumption) | (rw [List.size_toArray, bv_length]; with_reducible assumption) | (simp [cat, length_zsum, sgdC, rcpC, hok.1, hok.2, zc111, zc115]; done) | (simp [cat, length_zsum, sgdC, rcpC, hok.1, hok.2, zc111, zc115]; omega) | rfl)) rfl ?_
      intro _ w S
      refine p_val (e_assign (v := .int _ _) rfl) rfl ?_
      refine p_nil (x_then (s_ret (x_then_ret ?_)))
      exact postC1 (v := .int _ _) Try.results93 S 4 rfl rfl rfl rfl ag115 sz115 (by first | with_reducible assumption | (rw [bv_length]; with_reducible assumption) | (rw [List.size_toArray, bv_length]; with_reducible assumption) | (simp [cat, length_zsum, sgdC, rcpC, hok.1, hok.2, zc111, zc115]; done) | (simp [cat, length_zsum, sgdC, rcpC, hok.1, hok.2, zc111, zc115]; omega) | rfl) (by rw [e0]; exact ⟨none, 0, rfl, S.none_.addNil 5 1⟩)
    · have e0 : rSgd l = ((rRcp s13).1, s15, 0) := by simp only [rSgd, q13, q15, if_pos (Classical.not_not.1 hc19), if_pos (Classical.not_not.1 hc28)]
      refine s_skip (x_then (s_seq (s_plain ?_)))
      refine p_val (e_loadW 0 rfl ag111 sz111 S rfl rfl (by first | with_reducible assumption | (rw [bv_length]; with_reducible assumption) | (rw [List.size_toArray, bv_length]; with_reducible assumption) | (simp [cat, length_zsum, sgdC, rcpC, hok.1, hok.2, zc111, zc115]; done) | (simp [cat, length_zsum, sgdC, rcpC, hok.1, hok.2, zc111, zc115]; omega) | rfl)) rfl ?_
      refine p_val (e_move (v := .slice _ _ _) rfl) rfl ?_
      refine p_val (e_buildS bt115 (Eq.trans (fill_cat (v := .agg _) (l' := _) 0 5 rfl (rfl) (by first | with_reducible assumption | (rw [bv_length]; with_reducible assumption) | (rw [List.size_toArray, bv_length]; with_reducible assumption) | (simp [cat, length_zsum, sgdC, rcpC, hok.1, hok.2, zc111, zc115]; done) | (simp [cat, length_zsum, sgdC, rcpC, hok.1, hok.2, zc111, zc115]; omega) | rfl) (by first | with_reducible assumption | (rw [bv_length]; with_reducible assumption) | (rw [List.size_toArray, bv_length]; with_reducible assumption) | (simp [cat, length_zsum, sgdC, rcpC, hok.1, hok.2, zc111, zc115]; done) | (simp [cat, length_zsum, sgdC, rcpC, hok.1, hok.2, zc111, zc115]; omega) | rfl) (by first | with_reducible assumption | (rw [bv_length]; with_reducible assumption) | (rw [List.size_toArray, bv_length]; with_reducible assumption) | (simp [cat, length_zsum, sgdC, rcpC, hok.1, hok.2, zc111, zc115]; done) | (simp [cat, length_zsum, sgdC, rcpC, hok.1, hok.2, zc111, zc115]; omega) | rfl)) (Eq.trans (fill_cat (v := .slice _ _ _) (l' := [[_]]) 5 1 rfl (rfl) (by first | with_reducible assumption | (rw [bv_length]; with_reducible assumption) | (rw [List.size_toArray, bv_length]; with_reducible assumption) | (simp [cat, length_zsum, sgdC, rcpC, hok.1, hok.2, zc111, zc115]; done) | (simp [cat, length_zsum, sgdC, rcpC, hok.1, hok.2, zc111, zc115]; omega) | rfl) (by first | with_reducible assumption | (rw [bv_length]; with_reducible assumption) | (rw [List.size_toArray, bv_length]; with_reducible assumption) | (simp [cat, length_zsum, sgdC, rcpC, hok.1, hok.2, zc111, zc115]; done) | (simp [cat, length_zsum, sgdC, rcpC, hok.1, hok.2, zc111, zc115]; omega) | rfl) (by first | with_reducible assumption | (rw [bv_length]; with_reducible assumption) | (rw [List.size_toArray, bv_length]; with_reducible assumption) | (simp [cat, length_zsum, sgdC, rcpC, hok.1, hok.2, zc111, zc115]; done) | (simp [cat, length_zsum, sgdC, rcpC, hok.1, hok.2, zc111, zc115]; omega) | rfl)) rfl))) rfl ?_
      refine p_does (d_storeW S 4 rfl rfl (by first | exact bv_one _ | exact sv_one _ | exact iv_one _ | with_reducible assumption | (refine One.mem ?_; repeat (first | exact One.bv _ | exact One.sv _ | exact One.iv _ | exact One.nil | exact One.cat0 | refine One.cat1 ?_ ?_ | refine One.cons rfl ?_ | refine One.append ?_ ?_))) sz115 (by first | with_reducible assumption | (rw [bv_length]; with_reducible assumption) | (rw [List.size_toArray, bv_length]; with_reducible assumption) | (simp [cat, length_zsum, sgdC, rcpC, hok.1, hok.2, zc111, zc115]; done) | (simp [cat, length_zsum, sgdC, rcpC, hok.1, hok.2, zc111, zc115]; omega) | rfl) rfl rfl (by first | with_reducible assumption | (rw [bv_length]; with_reducible assumption) | (rw [List.size_toArray, bv_length]; with_reducible assumption) | (simp [cat, length_zsum, sgdC, rcpC, hok.1, hok.2, zc111, zc115]; done) | (simp [cat, length_zsum, sgdC, rcpC, hok.1, hok.2, zc111, zc115]; omega) | rfl)) rfl ?_
      intro _ w S
      refine p_val (e_assign (v := .int _ _) rfl) rfl ?_
      refine p_nil (x_then (s_ret ?_))
      exact postC1 (v := .int _ _) Try.results93 S 4 rfl rfl rfl rfl ag115 sz115 (by first | with_reducible assumption | (rw [bv_length]; with_reducible assumption) | (rw [List.size_toArray, bv_length]; with_reducible assumption) | (simp [cat, length_zsum, sgdC, rcpC, hok.1, hok.2, zc111, zc115]; done) | (simp [cat, length_zsum, sgdC, rcpC, hok.1, hok.2, zc111, zc115]; omega) | rfl) (by rw [e0]; exact ⟨_, _, rfl, S.pk [1] rfl⟩)
end Go.Proofs.Ytdhfiamgmokfbaa

/- Chapter 12's laws on texts and on bytes. It proves no statement by itself. -/
set_option linter.unusedSimpArgs false
set_option linter.unusedVariables false
set_option maxRecDepth 100000
set_option maxHeartbeats 2000000
namespace Go.Proofs.Ytdhfiamgmokfbaa
open Go Go.RowKit E
attribute [local irreducible] wpList seqH treeH
def Rcp.byt (r : Rcp) : Prop := Bytes r.h ∧ Bytes r.b
theorem app_lt {a b : List Nat} (ha : ∀ x ∈ a, x < 256) (hb : ∀ x ∈ b, x < 256) : ∀ x ∈ a ++ b, x < 256 := fun x h => (List.mem_append.1 h).elim (ha x) (hb x)
theorem rtext_lt {r : Rcp} (h : r.byt) : ∀ x ∈ rtext r, x < 256 := by
  unfold rtext
  exact app_lt (app_lt (app_lt (app_lt (num_lt _) (num_lt _)) (num_lt _)) h.1) h.2
theorem sput_lt {r : Rcp} {s : List Nat} (h : r.byt) (hs : ∀ x ∈ s, x < 256) : ∀ x ∈ sput r s, x < 256 := by
  unfold sput
  exact app_lt (app_lt (app_lt (num_lt _) (rtext_lt h)) (num_lt _)) hs
theorem rcp_back {r : Rcp} (hr : r.ok) (h : r.right) : rRcp (rtext r) = (r, 0) := by
  obtain ⟨h1, h2, h3, h4, h5, h6⟩ := h
  have e : rtext r = num r.t ++ (num r.c ++ (num r.s ++ (r.h ++ (r.b ++ [])))) := by simp [rtext]
  unfold rRcp
  rw [e]
  simp only [rUpto_num (a := r.t) (m := 15) ⟨h1, by omega⟩ (by decide), rUpto_num (a := r.c) (m := 1048576) ⟨h3, h4⟩ (by decide), rUpto_num (a := r.s) (m := 1048576) ⟨h5, h6⟩ (by decide), rSum_sum hr.1, rSum_sum hr.2, rDone_nil, if_true]
theorem rcp_inv {l : List Nat} (hB : Bytes l) (h : (rRcp l).2 = 0) : (rRcp l).1.right ∧ rtext (rRcp l).1 = l ∧ (rRcp l).1.byt := by
  unfold rRcp at h ⊢
  rcases ha : rUpto 15 0 l with ⟨a1, a2, a3⟩
  simp only [ha] at h ⊢
  rcases hb : rUpto 1048576 a2 a3 with ⟨b1, b2, b3⟩
  simp only [hb] at h ⊢
  rcases hc : rUpto 1048576 b2 b3 with ⟨c1, c2, c3⟩
  simp only [hc] at h ⊢
  rcases hh : rSum c2 c3 with ⟨s1, s2, s3⟩
  simp only [hh] at h ⊢
  rcases hg : rSum s2 s3 with ⟨g1, g2, g3⟩
  simp only [hg] at h ⊢
  split at h
  · rename_i hd
    rw [if_pos hd]
    obtain ⟨e1, e2⟩ := rDone_inv hd
    subst e1 e2
    obtain ⟨rfl, f2, f3⟩ := rSum_inv hg
    obtain ⟨rfl, f5, f6⟩ := rSum_inv hh
    -- bytes of what is left
    have key : ∀ {m e x : Int} {l l' : List Nat}, Bytes l → rUpto m e l = (x, 0, l') → Bytes l' := fun hB h => fun y hy => hB y (by rw [(rUpto_inv hB h).2.1]; exact List.mem_append.2 (.inr hy))
    have ha0 : a2 = 0 := by
      by_cases hz : a2 = 0
      · exact hz
      · have : rUpto 1048576 a2 a3 = (0, a2, a3) := by rw [rUpto_of (e2 := a2) (rNum_no hz a3) (by rw [if_neg (by decide)]), if_neg hz]
        rw [this] at hb
        simp only [Prod.mk.injEq] at hb
        have hb2 := hb.2.1
        subst hb2
        have : rUpto 1048576 a2 b3 = (0, a2, b3) := by rw [rUpto_of (e2 := a2) (rNum_no hz b3) (by rw [if_neg (by decide)]), if_neg hz]
        rw [this] at hc
        simp only [Prod.mk.injEq] at hc
        exact absurd hc.2.1 hz
    subst ha0
    have hb0 : b2 = 0 := by
      by_cases hz : b2 = 0
      · exact hz
      · have : rUpto 1048576 b2 b3 = (0, b2, b3) := by rw [rUpto_of (e2 := b2) (rNum_no hz b3) (by rw [if_neg (by decide)]), if_neg hz]
        rw [this] at hc
        simp only [Prod.mk.injEq] at hc
        exact absurd hc.2.1 hz
    subst hb0
    obtain ⟨_, k2, k3, k4, _⟩ := rUpto_inv hB ha
    have B1 := key hB ha
    obtain ⟨_, m2, m3, m4, _⟩ := rUpto_inv B1 hb
    have B2 := key B1 hb
    obtain ⟨_, n2, n3, n4, _⟩ := rUpto_inv B2 hc
    have B3 := key B2 hc
    refine ⟨⟨k3, by show a1 < 16; omega, m3, m4, n3, n4⟩, ?_, ?_, ?_⟩
    · show num a1 ++ num b1 ++ num c1 ++ s1 ++ g1 = l
      rw [k2, m2, n2, f5, f2]
      simp
    · exact fun y hy => B3 y (by rw [f5]; exact List.mem_append.2 (.inl hy))
    · exact fun y hy => B3 y (by rw [f5, f2]; simp [hy])
  · rename_i hd
    exact absurd h hd
theorem rcp_zero {l : List Nat} (h : ¬ (rRcp l).2 = 0) : (rRcp l).1 = Rcp.zero := by
  unfold rRcp at h ⊢
  simp only at h ⊢
  split
  · rename_i hd; rw [if_pos hd] at h; exact absurd rfl h
  · rfl
theorem sgd_back {r : Rcp} {s : List Nat} (hr : r.ok) (h : r.right) (hs : s.length ≤ 65536) : rSgd (sput r s) = (r, s, 0) := by
  have e : sput r s = num (rtext r).length ++ (rtext r ++ (num s.length ++ (s ++ []))) := by simp [sput]
  have hl := rtext_len hr
  unfold rSgd
  rw [e]
  simp only [rText_text (s := rtext r) (m := 65536) (by omega) (by decide), rText_text (s := s) (m := 65536) (by omega) (by decide), rDone_nil, if_true, rcp_back hr h]
theorem rText_no {e m : Int} (hm : 0 ≤ m) (hz : ¬ e = 0) (l : List Nat) : rText m e l = ([], e, l) := by
  have h1 : rUpto m e l = (0, e, l) := by rw [rUpto_of (e2 := e) (rNum_no hz l) (by rw [if_neg (by omega)]), if_neg hz]
  rw [rText_of h1 (b := []) (e2 := e) (l2 := l)]
  unfold rRaw
  rw [if_neg hz]
theorem sgd_inv {l : List Nat} (hB : Bytes l) (h : (rSgd l).2.2 = 0) : (rSgd l).1.right ∧ sput (rSgd l).1 (rSgd l).2.1 = l ∧ (rSgd l).1.byt ∧ Bytes (rSgd l).2.1 := by
  unfold rSgd at h ⊢
  simp only at h ⊢
  generalize hb : rText 65536 (rText 65536 0 l).2.1 (rText 65536 0 l).2.2 = b at h ⊢
  generalize ha : rText 65536 0 l = a at hb h ⊢
  obtain ⟨b1, b2, b3⟩ := b
  obtain ⟨a1, a2, a3⟩ := a
  simp only at h hb ⊢
  by_cases hd : rDone b2 b3 = 0
  · rw [if_pos hd] at h ⊢
    by_cases hq : (rRcp a1).2 = 0
    · rw [if_pos hq] at h ⊢
      obtain ⟨rfl, rfl⟩ := rDone_inv hd
      have ha0 : a2 = 0 := by
        by_cases hz : a2 = 0
        · exact hz
        · rw [rText_no (by decide) hz] at hb
          simp only [Prod.mk.injEq] at hb
          exact absurd hb.2.1 hz
      subst ha0
      obtain ⟨_, k2, _⟩ := rText_inv hB ha
      have B1 : Bytes a3 := fun y hy => hB y (by rw [k2]; simp [hy])
      obtain ⟨_, m2, _⟩ := rText_inv B1 hb
      obtain ⟨q1, q2, q3⟩ := rcp_inv (rText_bytes hB ha) hq
      refine ⟨q1, ?_, q3, rText_bytes B1 hb⟩
      show num (rtext (rRcp a1).1).length ++ rtext (rRcp a1).1 ++ num b1.length ++ b1 = l
      rw [q2, k2, m2]
      simp
    · rw [if_neg hq] at h
      exact absurd h hq
  · rw [if_neg hd] at h
    exact absurd h hd
theorem sgd_no {l : List Nat} (h : ¬ (rSgd l).2.2 = 0) : (rSgd l).1 = Rcp.zero ∧ (rSgd l).2.1 = [] := by
  unfold rSgd at h ⊢
  simp only at h ⊢
  split
  · rename_i hd
    rw [if_pos hd] at h
    split
    · rename_i hq; rw [if_pos hq] at h; exact absurd rfl h
    · exact ⟨rfl, rfl⟩
  · exact ⟨rfl, rfl⟩
theorem zero_ok : Rcp.zero.ok := ⟨length_zsum, length_zsum⟩
theorem zsum_lt : Bytes zsum := fun x h => by rw [(List.mem_replicate.1 h).2]; decide
theorem sgd_ok (l : List Nat) : (rSgd l).1.ok := by
  unfold rSgd
  simp only
  split
  · split
    · exact rcp_ok _
    · exact zero_ok
  · exact zero_ok
theorem eqRcp (r q : Rcp) (hr : r.ok) (hq : q.ok) : EqV Try.prog 3 111 (.agg (cat (rcpC r)).toArray) (.agg (cat (rcpC q)).toArray) (r = q) :=
  (EqV.struct (j := 2) Try.underlying111 (by kernel_rfl)
    (eqf_cons rfl (fun w => run_part1 (a := 0) w ag3 rfl rfl) (fun w => run_part1 (a := 0) w ag3 rfl rfl) ((EqV.int Try.underlying3).more 1)
    (eqf_cons rfl (fun w => run_part1 (a := 1) w ag3 rfl rfl) (fun w => run_part1 (a := 1) w ag3 rfl rfl) ((EqV.int Try.underlying3).more 1)
    (eqf_cons rfl (fun w => run_part1 (a := 2) w ag3 rfl rfl) (fun w => run_part1 (a := 2) w ag3 rfl rfl) ((EqV.int Try.underlying3).more 1)
    (eqf_cons rfl (fun w => run_partA (a := 3) w ag29 sz29 rfl rfl (by simp [hr.1])) (fun w => run_partA (a := 3) w ag29 sz29 rfl rfl (by simp [hq.1])) (EqV.sum eq29 hr.1 hq.1)
    (eqf_cons rfl (fun w => run_partA (a := 4) w ag29 sz29 rfl (by simp [rcpC, hr.1]) (by simp [hr.2])) (fun w => run_partA (a := 4) w ag29 sz29 rfl (by simp [rcpC, hq.1]) (by simp [hq.2])) (EqV.sum eq29 hr.2 hq.2) eqf_nil)))))).iff
    (by obtain ⟨a, b, c, d, e⟩ := r; obtain ⟨a', b', c', d', e'⟩ := q; simp)
noncomputable instance : DecidableEq Rcp := fun r q => Classical.propDecidable _
theorem l12awake (w0 : World) :
    Ret Try.prog 74 [] w0 fun v w' => v = .bool true ∧ Below w0.heap.size w0 w' := by
  refine enter Try.func74 rfl Try.ntmps74 (Nat.le_of_ble_eq_true rfl) ?_
  have S := St.init w0
  refine s_seq (s_plain ?_)
  refine p_val (e_assign (v := .bool _) rfl) rfl ?_
  refine p_nil (x_then (s_seq (s_plain ?_)))
  refine p_val (e_buildS0 bt115) rfl ?_
  refine p_does (d_call Try.func94 nm94 rfl rfl (sg_put _ Rcp.zero none 0 [] zero_ok (Rd.nil _ _ _) (by decide))) rfl ?_
  rintro _ w ⟨k5, c5, rfl, T⟩
  have S := S.merge T rfl
  refine p_does (d_call Try.func93 nm93 rfl rfl (Ret.mono (R' := fun v w' => ∃ k c2, v = .tuple #[.agg (cat (sgdC Rcp.zero (at_ k) 0 c2)).toArray, .int .i64 0] ∧ St _ w' [] [k] [Rw 5 1 0 c2 (bv [])]) (sg_get _ _ _ (sput Rcp.zero []) (S.rdRw 0 rfl rfl) (sput_lt ⟨zsum_lt, zsum_lt⟩ (by simp)) (S.capRw 0 rfl rfl) (by have h1 := rtext_len zero_ok; have h2 := num_len (rtext Rcp.zero).length; have h3 := num_len ([] : List Nat).length; unfold sput; simp only [List.length_append, List.length_nil] at *; omega)) (fun v w' ⟨k, c2, hv, hT⟩ => by rw [sgd_back zero_ok (by simp [Rcp.right, Rcp.zero]) (by decide)] at hv hT; exact ⟨k, c2, hv, hT⟩))) rfl ?_
  rintro _ w ⟨k6, c6, rfl, T⟩
  have S := S.merge T rfl
  refine p_val (e_move (v := .tuple _) rfl) rfl ?_
  refine p_val (e_extract rfl rfl) rfl ?_
  refine p_val (e_extract rfl rfl) rfl ?_
  refine p_does (d_allocA S zs115) rfl ?_
  rintro _ w ⟨b1, rfl, S⟩
  refine p_does (d_storeW S 0 rfl rfl (by first | exact bv_one _ | exact sv_one _ | exact iv_one _ | with_reducible assumption | (refine One.mem ?_; repeat (first | exact One.bv _ | exact One.sv _ | exact One.iv _ | exact One.nil | exact One.cat0 | refine One.cat1 ?_ ?_ | refine One.cons rfl ?_ | refine One.append ?_ ?_))) sz115 (by first | with_reducible assumption | (simp [cat, sgdC, zero_ok.1, zero_ok.2]; done) | (simp [cat, sgdC, zero_ok.1, zero_ok.2]; omega) | rfl) rfl rfl (by first | with_reducible assumption | (simp [cat, sgdC, zero_ok.1, zero_ok.2]; done) | (simp [cat, sgdC, zero_ok.1, zero_ok.2]; omega) | rfl)) rfl ?_
  intro _ w S
  refine p_val (e_assign (v := .int _ _) rfl) rfl ?_
  refine p_nil (x_then (s_seq ?_))
  refine s_cutK (ks := [some b1, k6, k5]) (ps := [Ex _ _, Rw _ _ _ _ _, Rw _ _ _ _ _]) [] trivial S (fun keep ks ps f' w' => ∃ u bb, f' = upds u ((0, .bool bb) :: keep) ∧ (bb = true ↔ True) ∧ St w0 w' [] ks ps) ?_ ?_
  · refine s_plain ?_
    refine p_val (e_buildS bt111 (Eq.trans (fill_cat (v := .int _ _) (l' := [[_]]) 0 1 rfl (rfl) (by first | with_reducible assumption | (simp [cat, sgdC, zero_ok.1, zero_ok.2]; done) | (simp [cat, sgdC, zero_ok.1, zero_ok.2]; omega) | rfl) (by first | with_reducible assumption | (simp [cat, sgdC, zero_ok.1, zero_ok.2]; done) | (simp [cat, sgdC, zero_ok.1, zero_ok.2]; omega) | rfl) (by first | with_reducible assumption | (simp [cat, sgdC, zero_ok.1, zero_ok.2]; done) | (simp [cat, sgdC, zero_ok.1, zero_ok.2]; omega) | rfl)) rfl)) rfl ?_
    refine p_does (d_call Try.func95 nm95 rfl rfl (rc_right _ ⟨16, 0, 0, zsum, zsum⟩ ⟨length_zsum, length_zsum⟩)) rfl ?_
    rintro _ w ⟨rfl, hB⟩
    have S := S.below hB
    rcases Classical.em (Rcp.right ⟨16, 0, 0, zsum, zsum⟩) with hg10 | hg10
    · exact False.elim (by simp [Rcp.right] at hg10)
    · rw [decide_eq_false hg10]
      refine p_val (e_not rfl) rfl ?_
      refine p_val (e_move (v := .bool _) rfl) rfl ?_
      refine pg_val rfl rfl rfl rfl rfl (e_buildS bt111 (Eq.trans (fill_cat (v := .int _ _) (l' := [[_]]) 0 1 rfl (rfl) (by first | with_reducible assumption | (simp [cat, sgdC, zero_ok.1, zero_ok.2]; done) | (simp [cat, sgdC, zero_ok.1, zero_ok.2]; omega) | rfl) (by first | with_reducible assumption | (simp [cat, sgdC, zero_ok.1, zero_ok.2]; done) | (simp [cat, sgdC, zero_ok.1, zero_ok.2]; omega) | rfl) (by first | with_reducible assumption | (simp [cat, sgdC, zero_ok.1, zero_ok.2]; done) | (simp [cat, sgdC, zero_ok.1, zero_ok.2]; omega) | rfl)) rfl)) ?_
      refine pg_does rfl rfl rfl rfl rfl (d_call Try.func95 nm95 rfl rfl (rc_right _ ⟨15, 0, 0, zsum, zsum⟩ ⟨length_zsum, length_zsum⟩)) ?_
      rintro _ w ⟨rfl, hB⟩
      have S := S.below hB
      rcases Classical.em (Rcp.right ⟨15, 0, 0, zsum, zsum⟩) with hg14 | hg14
      · rw [decide_eq_true hg14]
        refine p_val (e_pick_t rfl rfl) rfl ?_
        refine p_val (e_move (v := .bool _) rfl) rfl ?_
        refine pg_val rfl rfl rfl rfl rfl (e_move (v := .int _ _) rfl) ?_
        refine pg_val rfl rfl rfl rfl rfl (e_eql rfl rfl) ?_
        refine p_val (e_pick_t rfl rfl) rfl ?_
        refine p_val (e_assign (v := .bool _) rfl) rfl ?_
        exact p_nil (x_then ⟨_, rfl, _, _, upds_eq ⟨rfl, trivial⟩, by first | (simp only [decide_eq_true_eq, eq_self, true_iff, iff_true, iff_false, Bool.false_eq_true, false_iff, ge_iff_le, gt_iff_lt, true_and, and_true, false_and, and_false, true_or, or_true, false_or, or_false, not_true_eq_false, not_false_eq_true]; omega) | simp | omega | simp_all, S⟩)
      · exact False.elim (hg14 (by simp [Rcp.right]))
  · rintro f w ⟨u, b0, rfl, hb0, S⟩
    refine x_then (s_ret ?_)
    exact post1 (v := .bool _) Try.results74 rfl (⟨by rw [hb0.2 trivial], S.to_below⟩)
end Go.Proofs.Ytdhfiamgmokfbaa

/- Arguments opened: bytes, sums, texts. It proves no statement by itself. -/
set_option linter.unusedSimpArgs false
set_option linter.unusedVariables false
namespace Go.Proofs.Ytdhfiamgmokfbaa.E
open Go Go.RowKit Go.WideShapes Go.ChangeShapes Go.Deep
section
variable {H : Type} {enc : TypeId × Value → H} {P : Program} {w : World} {base : Nat} {spare : Nat → Bool} {held : Bool}
theorem okWide_array {r : Reach} {b0 : Nat} {t e : TypeId} {n : Nat} {v : Value} (ht : P.underlying t = some (.array n e)) (h : Value.okWide P w r b0 t v) : ∃ cs, v = .agg cs := by
  simp only [Value.okWide, ht] at h
  obtain ⟨cs, h1, _⟩ := h
  exact ⟨cs, h1⟩
theorem open_bytes {r : Reach} {b0 : Nat} {t e : TypeId} {v : Value} {d : DataW H} {p : List MemPlace} (ht : P.underlying t = some (.slice e)) (he : P.underlying e = some (.int .u8)) (hs : P.cellsOf e = 1) (hv : Value.okWide P w r b0 t v)
    (h : DataW.Trod enc P w base spare held t v d p) :
    ∃ (A : Option Addr) (n cap : Nat) (l : List Nat), v = .slice A n cap ∧ l.length = n ∧ n ≤ cap ∧ cap ≤ maxLen ∧ Bytes l ∧ Rd w 1 A n (bv l) := by
  obtain ⟨A, n, cap, l, h1, h2, h3, h4, h5, h6⟩ := open_row ht hs hv h (fun _ _ _ => opens_u8 he) (fun _ _ => rfl)
  exact ⟨A, n, cap, l, h1, h2, h3, h4, h5, by rw [bv_map] at h6; exact h6⟩
theorem open_sums {r : Reach} {b0 : Nat} {t e u : TypeId} {v : Value} {d : DataW H} {p : List MemPlace} (ht : P.underlying t = some (.slice e)) (he : P.underlying e = some (.array 32 u)) (hu : P.underlying u = some (.int .u8)) (hs : P.cellsOf u = 1) (hc : P.cellsOf e = 32) (hv : Value.okWide P w r b0 t v)
    (h : DataW.Trod enc P w base spare held t v d p) :
    ∃ (A : Option Addr) (n cap : Nat) (L : List (List Nat)), v = .slice A n cap ∧ L.length = n ∧ n ≤ cap ∧ cap ≤ maxLen ∧ All32 L ∧ (∀ l ∈ L, Bytes l) ∧ Rd w 32 A n (sv L) := by
  obtain ⟨A, n, cap, l, h1, h2, h3, h4, h5, h6⟩ := open_row (ok := fun l => l.length = 32 ∧ Bytes l) ht hc hv h (fun _ _ _ => opens_sum he hu hs hc) (fun _ h => by simpa using h.1)
  exact ⟨A, n, cap, l, h1, h2, h3, h4, fun x hx => (h5 x hx).1, fun x hx => (h5 x hx).2, h6⟩
theorem open_sum {r : Reach} {b0 : Nat} {t u : TypeId} {v : Value} {d : DataW H} {p : List MemPlace} (he : P.underlying t = some (.array 32 u)) (hu : P.underlying u = some (.int .u8)) (hs : P.cellsOf u = 1) (hc : P.cellsOf t = 32) (hv : Value.okWide P w r b0 t v)
    (h : DataW.Trod enc P w base spare held t v d p) : ∃ s : List Nat, v = .agg (bv s).toArray ∧ s.length = 32 ∧ Bytes s := by
  obtain ⟨s, h1, h2⟩ := open_val (r := r) (b0 := b0) (okWide_array he hv) h (opens_sum he hu hs hc)
  exact ⟨s, h1, h2.1, h2.2⟩
end
end Go.Proofs.Ytdhfiamgmokfbaa.E

/- Arguments opened: slices in structs, structs. It proves no statement by itself. -/
set_option linter.unusedSimpArgs false
set_option linter.unusedVariables false
namespace Go.Proofs.Ytdhfiamgmokfbaa.E
open Go Go.RowKit Go.WideShapes Go.ChangeShapes Go.Deep
/-- a slice and what it shows -/
structure Sl (α : Type) where
  A : Option Addr
  n : Nat
  c : Nat
  xs : List α
def slC {α : Type} (x : Sl α) : List Value := [.slice x.A x.n x.c]
section
variable {H : Type} {enc : TypeId × Value → H} {P : Program} {w : World} {base : Nat} {spare : Nat → Bool} {held : Bool} {α : Type}
def SlOk (w : World) (s : Nat) (c : α → List Value) (ok : α → Prop) (x : Sl α) : Prop := x.xs.length = x.n ∧ x.n ≤ x.c ∧ x.c ≤ maxLen ∧ (∀ y ∈ x.xs, ok y) ∧ Rd w s x.A x.n (x.xs.flatMap c)
theorem opens_slice {t e : TypeId} {s : Nat} {c : α → List Value} {ok : α → Prop} (ht : P.underlying t = some (.slice e)) (hs : P.cellsOf e = s) (ho : ∀ base spare held, Opens enc P w base spare held e c ok) (hl : ∀ x, ok x → (c x).length = s) :
    Opens enc P w base spare held t slC (SlOk w s c ok) := by
  intro fuel cs y hf
  rcases open_slice ht hf with ⟨e0, _⟩ | ⟨a, n, cap, m, k, D, Pl, e0, hb, h1, h2, hm, hx, hi⟩
  · exact ⟨⟨none, 0, 0, []⟩, e0, rfl, Nat.le_refl _, Nat.zero_le _, by simp, Rd.nil _ _ _⟩
  · have hle : n ≤ m := by rw [hm]; split <;> omega
    have key : ∀ n', n' ≤ n → ∃ xs : List α, xs.length = n' ∧ (∀ x ∈ xs, ok x) ∧ ∀ i x, xs[i]? = some x → ∀ j u, (c x)[j]? = some u → w.cell? (a.add (i * s + j)) = some u := by
      intro n'
      induction n' with
      | zero => intro _; exact ⟨[], rfl, by simp, by simp⟩
      | succ n' ih =>
        intro hn'
        obtain ⟨xs, e1, e2, e3⟩ := ih (by omega)
        obtain ⟨cs', hc', ht'⟩ := hi n' (by omega)
        rw [hs] at hc'
        obtain ⟨_, hcl, hat⟩ := World.cells?_some hc'
        obtain ⟨x, rfl, hox⟩ := ho _ _ _ _ _ _ ht'
        refine ⟨xs ++ [x], by simp [e1], fun y hy => ?_, fun i y hy j u hu => ?_⟩
        · rcases List.mem_append.1 hy with hy | hy
          · exact e2 y hy
          · rw [List.mem_singleton.1 hy]; exact hox
        · rcases Nat.lt_or_ge i n' with hi' | hi'
          · rw [List.getElem?_append_left (by omega)] at hy
            exact e3 i y hy j u hu
          · rw [List.getElem?_append_right (by omega)] at hy
            have hi0 : i - xs.length = 0 := by
              have := (List.getElem?_eq_some_iff.1 hy).1
              simp at this
              omega
            rw [hi0] at hy
            simp at hy
            subst hy
            have hj := (List.getElem?_eq_some_iff.1 hu).1
            have := hat j (by omega)
            rw [show i = n' by omega, ← E.add_add, this]
            exact hu
    obtain ⟨xs, e1, e2, e3⟩ := key n (Nat.le_refl _)
    refine ⟨⟨some a, n, cap, xs⟩, e0, e1, h1, h2, e2, ?_, fun j u hu => ⟨a, rfl, ?_⟩⟩
    · show (xs.flatMap c).length = n * s
      rw [flatMap_len (s := s) fun x hx => hl x (e2 x hx), e1]
    · have hj := (List.getElem?_eq_some_iff.1 hu).1
      change j < (xs.flatMap c).length at hj
      rw [flatMap_len (s := s) fun x hx => hl x (e2 x hx), e1] at hj
      have hs0 : 0 < s := by
        rcases Nat.eq_zero_or_pos s with h0 | h0
        · subst h0; omega
        · exact h0
      have hi' : j / s < n := (Nat.div_lt_iff_lt_mul hs0).2 hj
      have hx : xs[j / s]? = some (xs[j / s]'(by omega)) := List.getElem?_eq_getElem (by omega)
      have hjm : j % s < s := Nat.mod_lt _ hs0
      have hdm : j / s * s + j % s = j := by rw [Nat.mul_comm]; exact Nat.div_add_mod j s
      have := flatMap_at (s := s) (c := c) (fun x hx => hl x (e2 x hx)) hx hjm
      rw [hdm] at this
      change (xs.flatMap c)[j]? = some u at hu
      rw [this] at hu
      have h3 := e3 _ _ hx _ _ hu
      rwa [hdm] at h3
theorem opens_bytes {t e : TypeId} (ht : P.underlying t = some (.slice e)) (he : P.underlying e = some (.int .u8)) (hs : P.cellsOf e = 1) :
    Opens enc P w base spare held t slC (fun x : Sl Nat => x.xs.length = x.n ∧ x.n ≤ x.c ∧ x.c ≤ maxLen ∧ Bytes x.xs ∧ Rd w 1 x.A x.n (bv x.xs)) := by
  intro fuel cs y hf
  obtain ⟨x, e0, h1, h2, h3, h4, h5⟩ := opens_slice ht hs (fun _ _ _ => opens_u8 he) (fun _ _ => rfl) fuel cs y hf
  exact ⟨x, e0, h1, h2, h3, h4, by rw [bv_map] at h5; exact h5⟩
/-- the fields lie one behind the other -/
def contig (P : Program) : Nat → List Field → Nat → Bool
  | o, [], m => Nat.beq o m
  | o, f :: fs, m => Nat.beq f.offset o && contig P (o + P.cellsOf f.type) fs m
theorem contig_cut {m : Nat} {cs : List Value} (hl : cs.length = m) : ∀ (fs : List Field) (o : Nat), contig P o fs m = true → cs.drop o = (fs.map fun f => (cs.drop f.offset).take (P.cellsOf f.type)).flatten
  | [], o, h => by
    simp only [contig] at h
    have := Nat.eq_of_beq_eq_true h
    rw [List.map_nil, List.flatten_nil, List.drop_of_length_le (by omega)]
  | f :: fs, o, h => by
    simp only [contig, Bool.and_eq_true] at h
    have e1 := Nat.eq_of_beq_eq_true h.1
    rw [List.map_cons, List.flatten_cons, ← contig_cut hl fs _ h.2, e1, ← List.drop_drop, List.take_append_drop]
theorem trod_parts {t : TypeId} {fs : Array Field} {fuel : Nat} {cs : List Value} {y : DataW H × List MemPlace} (ht : P.underlying t = some (.struct fs)) (hc : contig P 0 fs.toList (P.cellsOf t) = true) (h : DataW.trod enc P w base spare held fuel t cs = some y) :
    cs = (fs.toList.map fun f => (cs.drop f.offset).take (P.cellsOf f.type)).flatten ∧ ∃ n, ∀ (i : Nat) (f : Field), fs[i]? = some f → ∃ z, DataW.trod enc P w base spare held n f.type ((cs.drop f.offset).take (P.cellsOf f.type)) = some z := by
  obtain ⟨xs, n, _, _, hlen, hxl, hf⟩ := DataW.trod_struct ht h
  refine ⟨?_, n, fun i f hi => ?_⟩
  · have := contig_cut (P := P) hlen fs.toList 0 hc
    rwa [List.drop_zero] at this
  · have h1 := hf i f hi
    have hlt : i < xs.length := by rw [hxl]; exact (Array.getElem?_eq_some_iff.1 hi).1
    rw [List.getElem?_eq_getElem hlt] at h1
    exact ⟨_, h1⟩
end
end Go.Proofs.Ytdhfiamgmokfbaa.E

/- Receipts as arguments. It proves no statement by itself. -/
set_option linter.unusedSimpArgs false
set_option linter.unusedVariables false
namespace Go.Proofs.Ytdhfiamgmokfbaa
open Go Go.RowKit Go.WideShapes Go.ChangeShapes Go.Deep E
section
variable {H : Type} {enc : TypeId × Value → H} {w : World} {base : Nat} {spare : Nat → Bool} {held : Bool}
theorem opensSum : Opens enc Try.prog w base spare held 29 bv (fun l => l.length = 32 ∧ Bytes l) := opens_sum Try.underlying29 Try.underlying5 (by kernel_rfl) (by kernel_rfl)
theorem opensInt : Opens enc Try.prog w base spare held 3 (fun x : Int => [Value.int .i64 x]) (fun x => -9223372036854775808 ≤ x ∧ x ≤ 9223372036854775807) := opens_i64 Try.underlying3
theorem opensBytes : Opens enc Try.prog w base spare held 33 slC (fun x : Sl Nat => x.xs.length = x.n ∧ x.n ≤ x.c ∧ x.c ≤ maxLen ∧ Bytes x.xs ∧ Rd w 1 x.A x.n (bv x.xs)) := opens_bytes Try.underlying33 Try.underlying5 (by kernel_rfl)
def rcpV (r : Rcp) : List Value := cat (rcpC r)
theorem opensRcp : Opens enc Try.prog w base spare held 111 rcpV (fun r => r.ok ∧ r.byt) := by
  intro fuel cs y h
  obtain ⟨hcs, n, hf⟩ := trod_parts Try.underlying111 (by kernel_rfl) h
  obtain ⟨y0, g0⟩ := hf 0 _ rfl
  obtain ⟨y1, g1⟩ := hf 1 _ rfl
  obtain ⟨y2, g2⟩ := hf 2 _ rfl
  obtain ⟨y3, g3⟩ := hf 3 _ rfl
  obtain ⟨y4, g4⟩ := hf 4 _ rfl
  obtain ⟨a0, e0, _⟩ := opensInt _ _ _ g0
  obtain ⟨a1, e1, _⟩ := opensInt _ _ _ g1
  obtain ⟨a2, e2, _⟩ := opensInt _ _ _ g2
  obtain ⟨a3, e3, h3⟩ := opensSum _ _ _ g3
  obtain ⟨a4, e4, h4⟩ := opensSum _ _ _ g4
  exact ⟨⟨a0, a1, a2, a3, a4⟩, hcs.trans (congrArg List.flatten (congr (congrArg List.cons e0) (congr (congrArg List.cons e1) (congr (congrArg List.cons e2) (congr (congrArg List.cons e3) (congr (congrArg List.cons e4) rfl)))))), ⟨h3.1, h4.1⟩, h3.2, h4.2⟩
theorem opensSgd : Opens enc Try.prog w base spare held 115 (fun x : Rcp × Sl Nat => cat (sgdC x.1 x.2.A x.2.n x.2.c)) (fun x => (x.1.ok ∧ x.1.byt) ∧ x.2.xs.length = x.2.n ∧ x.2.n ≤ x.2.c ∧ x.2.c ≤ maxLen ∧ Bytes x.2.xs ∧ Rd w 1 x.2.A x.2.n (bv x.2.xs)) := by
  intro fuel cs y h
  obtain ⟨hcs, n, hf⟩ := trod_parts Try.underlying115 (by kernel_rfl) h
  obtain ⟨y0, g0⟩ := hf 0 _ rfl
  obtain ⟨y1, g1⟩ := hf 1 _ rfl
  obtain ⟨a0, e0, h0⟩ := opensRcp _ _ _ g0
  obtain ⟨a1, e1, h1⟩ := opensBytes _ _ _ g1
  have h2 : cs = [rcpV a0, slC a1].flatten := hcs.trans (congrArg List.flatten (congr (congrArg List.cons e0) (congr (congrArg List.cons e1) rfl)))
  exact ⟨⟨a0, a1⟩, h2.trans (by simp [rcpV, rcpC, sgdC, slC, cat]), h0, h1⟩
end
end Go.Proofs.Ytdhfiamgmokfbaa

/- Receipts signed by keys, verified. It proves no statement by itself. -/
set_option linter.unusedSimpArgs false
set_option linter.unusedVariables false
set_option maxRecDepth 100000
set_option maxHeartbeats 2000000
namespace Go.Proofs.Ytdhfiamgmokfbaa
open Go Go.RowKit E
attribute [local irreducible] wpList seqH treeH
theorem key_sign (w0 : World) (hb : Nat) (k : Option Nat) (c : Nat) (s : List Nat) (x : Nat) (L : List (List Nat)) (A : Option Addr) (n0 c0 : Nat) (l : List Nat) (S0 : St w0 w0 (exOf [some hb, k]) [some hb, k] [keyE k L.length c s (x : Int), keyR L.length c L]) (hs : s.length = 32) (hL : All32 L) (hn : L.length ≤ 64) (hx : x ≤ L.length) (R : Rd w0 1 A n0 (bv l)) (oR : Off A n0 (exOf [some hb, k])) (hl : n0 ≤ 1099511000000) :
    Ret Try.prog 62 [.pointer (some ⟨hb, 0, none⟩), .slice A n0 c0] w0 fun v w' => ∃ k2 c2 o e, v = .tuple #[.slice (at_ k2) (List.length o) c2, .int .i64 e] ∧ (x < L.length → o = msig s L x l ∧ e = 0) ∧ (L.length ≤ x → o = [] ∧ e = 15) ∧ St w0 w' (exOf [some hb, k]) [k2, some hb, k] [Rw 5 1 (List.length o) c2 (bv o), keyE k L.length c s ((min (x + 1) L.length : Nat) : Int), keyR L.length c L] := by
  by_cases h : x < L.length
  · refine (mn_sign w0 hb k c s x L A n0 c0 l S0 hs hL hn h R oR hl).mono ?_
    rintro v w' ⟨k2, c2, rfl, T⟩
    refine ⟨k2, c2, _, _, rfl, fun _ => ⟨rfl, rfl⟩, fun h' => absurd h (by omega), ?_⟩
    rw [Nat.min_eq_left (by omega)]
    exact T
  · obtain rfl : x = L.length := by omega
    refine (mn_sign_used w0 hb k _ c s _ L A n0 c0 S0 hs hn rfl).mono ?_
    rintro v w' ⟨rfl, T⟩
    refine ⟨none, 0, [], _, rfl, fun h' => absurd h' h, fun _ => ⟨rfl, rfl⟩, ?_⟩
    rw [Nat.min_eq_right (by omega)]
    exact T.addNil 5 1
theorem rcpV_len {r : Rcp} (h : r.ok) : (rcpV r).length = 67 := by simp [rcpV, rcpC, cat, h.1, h.2]
theorem rc_sign (w0 : World) (hb : Nat) (k : Option Nat) (c : Nat) (s : List Nat) (x : Nat) (L : List (List Nat)) (r : Rcp) (S0 : St w0 w0 (exOf [some hb, k]) [some hb, k] [keyE k L.length c s (x : Int), keyR L.length c L]) (hs : s.length = 32) (hL : All32 L) (hn : L.length ≤ 64) (hx : x ≤ L.length) (hr : r.ok) :
    Ret Try.prog 75 [.pointer (some ⟨hb, 0, none⟩), .agg (cat (rcpC r)).toArray] w0 fun v w' => ∃ k2 c2 o e x2, v = .tuple #[.slice (at_ k2) (List.length o) c2, .int .i64 e] ∧ (¬ r.right → o = [] ∧ e = 1 ∧ x2 = x) ∧ (r.right → x < L.length → o = msig s L x (rtext r) ∧ e = 0 ∧ x2 = x + 1) ∧ (r.right → L.length ≤ x → o = [] ∧ e = 15 ∧ x2 = x) ∧ x2 ≤ L.length ∧ St w0 w' (exOf [some hb, k]) [k2, some hb, k] [Rw 5 1 (List.length o) c2 (bv o), keyE k L.length c s (x2 : Int), keyR L.length c L] := by
  refine enter Try.func75 rfl Try.ntmps75 (Nat.le_of_ble_eq_true rfl) ?_
  have S := S0
  have htl := rtext_len hr
  refine s_seq (s_plain ?_)
  refine p_does (d_boxA S rfl) rfl ?_
  rintro _ w ⟨b3, rfl, S⟩
  refine p_val (e_assign (v := .slice _ _ _) rfl) rfl ?_
  refine p_val (e_assign (v := .int _ _) rfl) rfl ?_
  refine p_nil (x_then (s_seq (s_seq (s_plain ?_))))
  refine p_val (e_loadW 0 rfl ag111 sz111 S rfl rfl (by first | with_reducible assumption | (rw [bv_length]; with_reducible assumption) | (rw [List.size_toArray, bv_length]; with_reducible assumption) | (simp [cat, hs, Value.cells, rcpC, hr.1, hr.2]; done) | (simp [cat, hs, Value.cells, rcpC, hr.1, hr.2]; omega) | rfl)) rfl ?_
  refine p_does (d_call Try.func95 nm95 rfl rfl (rc_right _ _ (by with_reducible assumption))) rfl ?_
  rintro _ w ⟨rfl, hB⟩
  have S := S.below hB
  refine p_val (e_not rfl) rfl ?_
  refine p_nil (x_then ?_)
  refine s_condb rfl (fun hc8 => ?_) (fun hc8 => ?_)
  · have hno : ¬ r.right := by simpa using hc8
    refine s_seq (s_plain ?_)
    refine p_val (e_assign (v := .slice _ _ _) rfl) rfl ?_
    refine p_val (e_assign (v := .int _ _) rfl) rfl ?_
    refine p_nil (x_then (s_ret (x_then_ret ?_)))
    exact post2 (v := .slice _ _ _) (x := .int _ _) Try.results75 rfl rfl (⟨none, 0, [], _, x, rfl, fun _ => ⟨rfl, rfl, rfl⟩, fun h => absurd h hno, fun h => absurd h hno, hx, (S.pk [1, 2] rfl).addNil 5 1⟩)
  · have hyes : r.right := by simpa using hc8
    refine s_skip (x_then (s_seq (s_plain ?_)))
    refine p_val (e_move (v := .pointer _) rfl) rfl ?_
    refine p_val (e_loadW 0 rfl ag111 sz111 S rfl rfl (by first | with_reducible assumption | (rw [bv_length]; with_reducible assumption) | (rw [List.size_toArray, bv_length]; with_reducible assumption) | (simp [cat, hs, Value.cells, rcpC, hr.1, hr.2]; done) | (simp [cat, hs, Value.cells, rcpC, hr.1, hr.2]; omega) | rfl)) rfl ?_
    refine p_does (d_call Try.func96 nm96 rfl rfl (rc_text _ _ (by with_reducible assumption))) rfl ?_
    rintro _ w ⟨k11, c11, rfl, T⟩
    have S := S.merge T rfl
    refine p_does (d_call Try.func62 nm62 rfl rfl (key_sign _ _ _ _ s x L _ _ _ (rtext r) (S.hr [2, 3] rfl) hs hL hn hx (S.rdRw 0 rfl rfl) (S.offRow 0 [2, 3] rfl rfl) (by omega))) rfl ?_
    rintro _ w ⟨k12, c12, o12, e12, rfl, ho1, ho2, T⟩
    have S := (S.call [2, 3] T rfl).pk [0, 3, 4, 1, 2] rfl
    refine p_val (e_extract rfl rfl) rfl ?_
    refine p_val (e_extract rfl rfl) rfl ?_
    refine p_val (e_assign (v := .slice _ _ _) rfl) rfl ?_
    refine p_val (e_assign (v := .int _ _) rfl) rfl ?_
    refine p_nil (x_then (s_ret ?_))
    exact post2 (v := .slice _ _ _) (x := .int _ _) Try.results75 rfl rfl (⟨_, _, _, _, min (x + 1) L.length, rfl, fun h => absurd hyes h, fun _ h => ⟨(ho1 h).1, (ho1 h).2, by omega⟩, fun _ h => ⟨(ho2 h).1, (ho2 h).2, by omega⟩, Nat.min_le_right _ _, S.pk [0, 3, 4] rfl⟩)
theorem rc_verify (w0 : World) (rt : List Nat) (r : Rcp) (A : Option Addr) (c : Nat) (g : List Nat) (hu : rt.length = 32) (hr : r.ok) (R : Rd w0 1 A g.length (bv g)) (bR : Bytes g) (cR : g.length ≤ c) (nR : g.length ≤ 1099511000000) :
    Ret Try.prog 78 [.agg (bv rt).toArray, .agg (cat (rcpC r)).toArray, .slice A g.length c] w0 fun v w' => v = .bool (decide (r.right ∧ mver rt (rtext r) g)) ∧ Below w0.heap.size w0 w' := by
  refine enter Try.func78 rfl Try.ntmps78 (Nat.le_of_ble_eq_true rfl) ?_
  have S := St.init w0
  have htl := rtext_len hr
  refine s_seq (s_plain ?_)
  refine p_does (d_boxA S rfl) rfl ?_
  rintro _ w ⟨b3, rfl, S⟩
  refine p_does (d_boxA S rfl) rfl ?_
  rintro _ w ⟨b4, rfl, S⟩
  refine p_val (e_assign (v := .bool _) rfl) rfl ?_
  refine p_nil (x_then (s_seq ?_))
  refine s_cutK (ks := [some b4, some b3]) (ps := [Ex _ _, Ex _ _]) [] trivial S (fun keep ks ps f' w' => ∃ u bb, f' = upds u ((6, .bool bb) :: keep) ∧ (bb = true ↔ (r.right ∧ mver rt (rtext r) g)) ∧ St w0 w' [] ks ps) ?_ ?_
  · refine s_drawK (ks := [some b4, some b3]) (ps := [Ex _ _, Ex _ _]) S [(true, 0), (false, 1), (true, 2), (true, 3), (true, 4), (true, 6), (false, 5), (false, 7), (true, 8)] [9] [9] mixed (by kernel_rfl) (by repeat (first | exact Calm.post _ _ _ | refine Calm.then ?_ _ | refine Calm.inB ?_ _)) (fun hS => ?_)
    have S := S.drew
    refine q_val (fun w hS => e_loadW 0 rfl ag111 sz111 hS rfl rfl (by first | with_reducible assumption | (rw [bv_length]; with_reducible assumption) | (rw [List.size_toArray, bv_length]; with_reducible assumption) | (simp [cat, hu, rcpC, hr.1, hr.2]; done) | (simp [cat, hu, rcpC, hr.1, hr.2]; omega) | rfl)) rfl hS ?_
    refine q_does (d_call Try.func95 nm95 rfl rfl (rc_right _ _ (by with_reducible assumption))) rfl ?_
    rintro _ w ⟨rfl, hB⟩
    have S := S.below hB
    have hS := S.pk [0, 1] rfl
    refine ⟨hS, ?_⟩
    rcases Classical.em (r.right) with hg8 | hg8
    · rw [decide_eq_true hg8]
      refine q_val (fun w hS => e_move (v := .bool _) rfl) rfl hS ?_
      refine qg_val rfl rfl rfl rfl rfl (fun w hS => e_loadW 1 rfl ag29 sz29 hS rfl rfl (by first | with_reducible assumption | (rw [bv_length]; with_reducible assumption) | (rw [List.size_toArray, bv_length]; with_reducible assumption) | (simp [cat, hu, rcpC, hr.1, hr.2]; done) | (simp [cat, hu, rcpC, hr.1, hr.2]; omega) | rfl)) hS ?_
      refine qg_val rfl rfl rfl rfl rfl (fun w hS => e_loadW 0 rfl ag111 sz111 hS rfl rfl (by first | with_reducible assumption | (rw [bv_length]; with_reducible assumption) | (rw [List.size_toArray, bv_length]; with_reducible assumption) | (simp [cat, hu, rcpC, hr.1, hr.2]; done) | (simp [cat, hu, rcpC, hr.1, hr.2]; omega) | rfl)) hS ?_
      refine qg_val rfl rfl rfl rfl rfl (fun w hS => e_move (v := .slice _ _ _) rfl) hS ?_
      refine qg_does rfl rfl rfl rfl rfl (d_call Try.func96 nm96 rfl rfl (rc_text _ _ (by with_reducible assumption))) ?_
      rintro _ w ⟨k12, c12, rfl, T⟩
      have S := S.merge T rfl
      have hS := S.pk [1, 2] rfl
      refine ⟨hS, ?_⟩
      refine qg_does rfl rfl rfl rfl rfl (d_call Try.func69 nm69 rfl rfl (mn_verify _ _ _ _ _ _ _ _ _ (by first | with_reducible assumption | (rw [bv_length]; with_reducible assumption) | (rw [List.size_toArray, bv_length]; with_reducible assumption) | (simp [cat, hu, rcpC, hr.1, hr.2]; done) | (simp [cat, hu, rcpC, hr.1, hr.2]; omega) | rfl) (S.rdRw 0 rfl rfl) (by omega) (S.rdOld R rfl) bR (by omega) (by first | omega | (simp only [List.length_append, List.length_cons, List.length_nil, bv_length, hu, rcpC, hr.1, hr.2]; omega) | (simp [cat, hu, rcpC, hr.1, hr.2]; omega)))) ?_
      rintro _ w ⟨rfl, hB⟩
      have S := S.below hB
      have hS := S.pk [1, 2] rfl
      refine ⟨hS, ?_⟩
      rcases Classical.em (mver rt (rtext r) g) with hg14 | hg14
      · rw [decide_eq_true hg14]
        refine q_val (fun w hS => e_pick_t rfl rfl) rfl hS ?_
        refine q_nil ?_
        refine p_val (e_assign (v := .bool _) rfl) rfl ?_
        exact p_nil (x_then ⟨_, rfl, _, _, upds_eq ⟨rfl, trivial⟩, by first | (simp only [decide_eq_true_eq, eq_self, true_iff, iff_true, iff_false, Bool.false_eq_true, false_iff, ge_iff_le, gt_iff_lt, true_and, and_true, false_and, and_false, true_or, or_true, false_or, or_false, not_true_eq_false, not_false_eq_true]; omega) | (simp; done) | omega | (simp_all; done), S.pk [1, 2] rfl⟩)
      · rw [decide_eq_false hg14]
        refine q_val (fun w hS => e_pick_t rfl rfl) rfl hS ?_
        refine q_nil ?_
        refine p_val (e_assign (v := .bool _) rfl) rfl ?_
        exact p_nil (x_then ⟨_, rfl, _, _, upds_eq ⟨rfl, trivial⟩, by first | (simp only [decide_eq_true_eq, eq_self, true_iff, iff_true, iff_false, Bool.false_eq_true, false_iff, ge_iff_le, gt_iff_lt, true_and, and_true, false_and, and_false, true_or, or_true, false_or, or_false, not_true_eq_false, not_false_eq_true]; omega) | (simp; done) | omega | (simp_all; done), S.pk [1, 2] rfl⟩)
    · rw [decide_eq_false hg8]
      refine q_val (fun w hS => e_move (v := .bool _) rfl) rfl hS ?_
      refine q_no rfl rfl rfl rfl rfl hS ?_
      refine q_no rfl rfl rfl rfl rfl hS ?_
      refine q_no rfl rfl rfl rfl rfl hS ?_
      refine q_no rfl rfl rfl rfl rfl hS ?_
      refine q_no rfl rfl rfl rfl rfl hS ?_
      refine q_val (fun w hS => e_pick_f rfl rfl) rfl hS ?_
      refine q_nil ?_
      refine p_val (e_assign (v := .bool _) rfl) rfl ?_
      exact p_nil (x_then ⟨_, rfl, _, _, upds_eq ⟨rfl, trivial⟩, by first | (simp only [decide_eq_true_eq, eq_self, true_iff, iff_true, iff_false, Bool.false_eq_true, false_iff, ge_iff_le, gt_iff_lt, true_and, and_true, false_and, and_false, true_or, or_true, false_or, or_false, not_true_eq_false, not_false_eq_true]; omega) | (simp; done) | omega | (simp_all; done), S⟩)
  · rintro f w ⟨u, b6, rfl, hb6, S⟩
    refine x_then (s_ret ?_)
    exact post1 (v := .bool _) Try.results78 rfl (⟨by rw [Value.bool.injEq, Bool.eq_iff_iff, hb6, decide_eq_true_eq], S.to_below⟩)
theorem rc_good (w0 : World) (rt : List Nat) (r : Rcp) (A : Option Addr) (c : Nat) (g : List Nat) (hu : rt.length = 32) (hr : r.ok) (R : Rd w0 1 A g.length (bv g)) (bR : Bytes g) (cR : g.length ≤ c) (nR : g.length ≤ 1099511000000) :
    Ret Try.prog 77 [.agg (cat (sgdC r A g.length c)).toArray, .agg (bv rt).toArray] w0 fun v w' => v = .bool (decide (r.right ∧ mver rt (rtext r) g)) ∧ Below w0.heap.size w0 w' := by
  refine enter Try.func77 rfl Try.ntmps77 (Nat.le_of_ble_eq_true rfl) ?_
  have S := St.init w0
  refine s_seq (s_plain ?_)
  refine p_does (d_boxA S rfl) rfl ?_
  rintro _ w ⟨b2, rfl, S⟩
  refine p_does (d_boxA S rfl) rfl ?_
  rintro _ w ⟨b3, rfl, S⟩
  refine p_val (e_assign (v := .bool _) rfl) rfl ?_
  refine p_nil (x_then (s_seq (s_plain ?_)))
  refine p_val (e_loadW 0 rfl ag29 sz29 S rfl rfl (by first | with_reducible assumption | (rw [bv_length]; with_reducible assumption) | (rw [List.size_toArray, bv_length]; with_reducible assumption) | (simp [cat, hu, sgdC, rcpC, hr.1, hr.2]; done) | (simp [cat, hu, sgdC, rcpC, hr.1, hr.2]; omega) | rfl)) rfl ?_
  refine p_val (e_field rfl Try.underlying115 rfl sz111 (by decide)) rfl ?_
  refine p_val (e_loadFS (i := 0) (n := 5) (off := 0) rfl ag111 sz111 (by decide) S (j := 1) rfl rfl (by first | with_reducible assumption | (rw [bv_length]; with_reducible assumption) | (rw [List.size_toArray, bv_length]; with_reducible assumption) | (simp [cat, hu, sgdC, rcpC, hr.1, hr.2]; done) | (simp [cat, hu, sgdC, rcpC, hr.1, hr.2]; omega) | rfl) (by first | with_reducible assumption | (rw [bv_length]; with_reducible assumption) | (rw [List.size_toArray, bv_length]; with_reducible assumption) | (simp [cat, hu, sgdC, rcpC, hr.1, hr.2]; done) | (simp [cat, hu, sgdC, rcpC, hr.1, hr.2]; omega) | rfl)) rfl ?_
  refine p_val (e_field rfl Try.underlying115 rfl sz33 (by decide)) rfl ?_
  refine p_val (e_loadF1 (i := 5) (off := 67) rfl ag33 S (j := 1) rfl rfl rfl (by first | with_reducible assumption | (rw [bv_length]; with_reducible assumption) | (rw [List.size_toArray, bv_length]; with_reducible assumption) | (simp [cat, hu, sgdC, rcpC, hr.1, hr.2]; done) | (simp [cat, hu, sgdC, rcpC, hr.1, hr.2]; omega) | rfl)) rfl ?_
  refine p_does (d_call Try.func78 nm78 rfl rfl (rc_verify _ rt r A c g hu hr (S.rdOld R rfl) bR cR nR)) rfl ?_
  rintro _ w ⟨rfl, hB⟩
  have S := S.below hB
  refine p_val (e_assign (v := .bool _) rfl) rfl ?_
  refine p_nil (x_then (s_ret ?_))
  exact post1 (v := .bool _) Try.results77 rfl (⟨rfl, S.to_below⟩)
end Go.Proofs.Ytdhfiamgmokfbaa

/- Chapter 12's law on receipts that are signed. It proves no statement by itself. -/
set_option linter.unusedSimpArgs false
set_option linter.unusedVariables false
set_option maxRecDepth 100000
set_option maxHeartbeats 2000000
namespace Go.Proofs.Ytdhfiamgmokfbaa
open Go Go.RowKit E
attribute [local irreducible] wpList seqH treeH
abbrev rcp0 : Rcp := ⟨0, 0, 0, [], []⟩
theorem rsigns_out (w0 : World) (s : List Nat) (n : Int) (A : Option Addr) (n0 c0 : Nat) (q : Rcp) (hq : q.ok) (h : n < 1 ∨ 3 < n ∨ 4 < n0) :
    Ret Try.prog 17 [.agg (bv s).toArray, .int .i64 n, .slice A n0 c0, .agg (cat (rcpC q)).toArray] w0 fun v w' => v = .bool true ∧ Below w0.heap.size w0 w' := by
  refine enter Try.func17 rfl Try.ntmps17 (Nat.le_of_ble_eq_true rfl) ?_
  have S := St.init w0
  refine s_seq (s_plain ?_)
  refine p_does (d_boxA S rfl) rfl ?_
  rintro _ w ⟨b4, rfl, S⟩
  refine p_does (d_boxA S rfl) rfl ?_
  rintro _ w ⟨b7, rfl, S⟩
  refine p_val (e_assign (v := .bool _) rfl) rfl ?_
  refine p_nil (x_then (s_seq (s_seq ?_)))
  refine s_cutK (ks := [some b7, some b4]) (ps := [Ex _ _, Ex _ _]) [(1, .int _ _), (2, .slice _ _ _), (4, .pointer _), (7, .pointer _)] ⟨rfl, rfl, rfl, rfl, trivial⟩ S (fun keep ks ps f' w' => ∃ u bb, f' = upds u ((26, .bool bb) :: keep) ∧ (bb = true ↔ (((n < (1 : Int)) ∨ ((3 : Int) < n)) ∨ ((4 : Int) < ((n0 : Nat) : Int)))) ∧ St w0 w' [] ks ps) ?_ ?_
  · refine s_plain ?_
    refine p_val (e_move (v := .int _ _) rfl) rfl ?_
    refine p_valB (e_lss rfl rfl) rfl (fun hg17 => ?_) (fun hg17 => ?_)
    · refine p_val (e_move (v := .bool _) rfl) rfl ?_
      refine p_no rfl rfl rfl rfl rfl ?_
      refine p_no rfl rfl rfl rfl rfl ?_
      refine p_val (e_pick_t rfl rfl) rfl ?_
      refine p_val (e_move (v := .bool _) rfl) rfl ?_
      refine p_no rfl rfl rfl rfl rfl ?_
      refine p_no rfl rfl rfl rfl rfl ?_
      refine p_no rfl rfl rfl rfl rfl ?_
      refine p_val (e_pick_t rfl rfl) rfl ?_
      exact p_nil (x_then ⟨_, rfl, _, _, upds_eq ⟨rfl, rfl, rfl, rfl, rfl, trivial⟩, by first | (simp only [decide_eq_true_eq, eq_self, true_iff, iff_true, iff_false, Bool.false_eq_true, false_iff, ge_iff_le, gt_iff_lt, true_and, and_true, false_and, and_false, true_or, or_true, false_or, or_false, not_true_eq_false, not_false_eq_true]; omega) | (simp; done) | omega | (simp_all; done), S⟩)
    · refine p_val (e_move (v := .bool _) rfl) rfl ?_
      refine pg_val rfl rfl rfl rfl rfl (e_move (v := .int _ _) rfl) ?_
      refine pg_valB rfl rfl rfl rfl rfl (e_gtr rfl rfl) (fun hg20 => ?_) (fun hg20 => ?_)
      · refine p_val (e_pick_f rfl rfl) rfl ?_
        refine p_val (e_move (v := .bool _) rfl) rfl ?_
        refine p_no rfl rfl rfl rfl rfl ?_
        refine p_no rfl rfl rfl rfl rfl ?_
        refine p_no rfl rfl rfl rfl rfl ?_
        refine p_val (e_pick_t rfl rfl) rfl ?_
        exact p_nil (x_then ⟨_, rfl, _, _, upds_eq ⟨rfl, rfl, rfl, rfl, rfl, trivial⟩, by first | (simp only [decide_eq_true_eq, eq_self, true_iff, iff_true, iff_false, Bool.false_eq_true, false_iff, ge_iff_le, gt_iff_lt, true_and, and_true, false_and, and_false, true_or, or_true, false_or, or_false, not_true_eq_false, not_false_eq_true]; omega) | (simp; done) | omega | (simp_all; done), S⟩)
      · refine p_val (e_pick_f rfl rfl) rfl ?_
        refine p_val (e_move (v := .bool _) rfl) rfl ?_
        refine pg_val rfl rfl rfl rfl rfl (e_move (v := .slice _ _ _) rfl) ?_
        refine pg_val rfl rfl rfl rfl rfl (e_len rfl Try.underlying109) ?_
        refine pg_val rfl rfl rfl rfl rfl (e_gtr rfl rfl) ?_
        refine p_val (e_pick_f rfl rfl) rfl ?_
        exact p_nil (x_then ⟨_, rfl, _, _, upds_eq ⟨rfl, rfl, rfl, rfl, rfl, trivial⟩, by first | (simp only [decide_eq_true_eq, eq_self, true_iff, iff_true, iff_false, Bool.false_eq_true, false_iff, ge_iff_le, gt_iff_lt, true_and, and_true, false_and, and_false, true_or, or_true, false_or, or_false, not_true_eq_false, not_false_eq_true]; omega) | (simp; done) | omega | (simp_all; done), S⟩)
  · rintro f w ⟨u, b26, rfl, hb26, S⟩
    refine x_then ?_
    refine s_condb rfl (fun hc26 => ?_) (fun hc26 => ?_)
    · have hp26 : (((n < (1 : Int)) ∨ ((3 : Int) < n)) ∨ ((4 : Int) < ((n0 : Nat) : Int))) := hb26.1 hc26
      refine s_seq (s_plain ?_)
      refine p_does (d_call Try.func74 nm74 rfl rfl (l12awake _)) rfl ?_
      rintro _ w ⟨rfl, hB⟩
      have S := S.below hB
      refine p_val (e_assign (v := .bool _) rfl) rfl ?_
      refine p_nil (x_then (s_ret (x_then_ret ?_)))
      exact post1 (v := .bool _) Try.results17 rfl (⟨rfl, S.to_below⟩)
    · exact False.elim ((fun (hp26 : ¬ (((n < (1 : Int)) ∨ ((3 : Int) < n)) ∨ ((4 : Int) < ((n0 : Nat) : Int)))) => by omega) (fun h => by rw [hb26.2 h] at hc26; cases hc26))
theorem rsigns_in (w0 : World) (s : List Nat) (n : Nat) (A : Option Addr) (n0 c0 : Nat) (X : List Rcp) (q : Rcp) (hs : s.length = 32) (hq : q.ok) (h1 : 1 ≤ n) (h3 : n ≤ 3) (hX : X.length = n0) (h4 : n0 ≤ 4) (hY : ∀ x ∈ X, x.ok) (R : Rd w0 67 A n0 (X.flatMap rcpV)) :
    Ret Try.prog 17 [.agg (bv s).toArray, .int .i64 (n : Int), .slice A n0 c0, .agg (cat (rcpC q)).toArray] w0 fun v w' => v = .bool true ∧ Below w0.heap.size w0 w' := by
  refine enter Try.func17 rfl Try.ntmps17 (Nat.le_of_ble_eq_true rfl) ?_
  have S := St.init w0
  refine s_seq (s_plain ?_)
  refine p_does (d_boxA S rfl) rfl ?_
  rintro _ w ⟨b4, rfl, S⟩
  refine p_does (d_boxA S rfl) rfl ?_
  rintro _ w ⟨b7, rfl, S⟩
  refine p_val (e_assign (v := .bool _) rfl) rfl ?_
  refine p_nil (x_then (s_seq (s_seq ?_)))
  refine s_cutK (ks := [some b7, some b4]) (ps := [Ex _ _, Ex _ _]) [(1, .int _ _), (2, .slice _ _ _), (4, .pointer _), (7, .pointer _)] ⟨rfl, rfl, rfl, rfl, trivial⟩ S (fun keep ks ps f' w' => ∃ u bb, f' = upds u ((26, .bool bb) :: keep) ∧ (bb = true ↔ ((((n : Int) < (1 : Int)) ∨ ((3 : Int) < (n : Int))) ∨ ((4 : Int) < ((n0 : Nat) : Int)))) ∧ St w0 w' [] ks ps) ?_ ?_
  · refine s_plain ?_
    refine p_val (e_move (v := .int _ _) rfl) rfl ?_
    refine p_valB (e_lss rfl rfl) rfl (fun hg17 => ?_) (fun hg17 => ?_)
    · refine p_val (e_move (v := .bool _) rfl) rfl ?_
      refine p_no rfl rfl rfl rfl rfl ?_
      refine p_no rfl rfl rfl rfl rfl ?_
      refine p_val (e_pick_t rfl rfl) rfl ?_
      refine p_val (e_move (v := .bool _) rfl) rfl ?_
      refine p_no rfl rfl rfl rfl rfl ?_
      refine p_no rfl rfl rfl rfl rfl ?_
      refine p_no rfl rfl rfl rfl rfl ?_
      refine p_val (e_pick_t rfl rfl) rfl ?_
      exact p_nil (x_then ⟨_, rfl, _, _, upds_eq ⟨rfl, rfl, rfl, rfl, rfl, trivial⟩, by first | (simp only [decide_eq_true_eq, eq_self, true_iff, iff_true, iff_false, Bool.false_eq_true, false_iff, ge_iff_le, gt_iff_lt, true_and, and_true, false_and, and_false, true_or, or_true, false_or, or_false, not_true_eq_false, not_false_eq_true]; omega) | (simp; done) | omega | (simp_all; done), S⟩)
    · refine p_val (e_move (v := .bool _) rfl) rfl ?_
      refine pg_val rfl rfl rfl rfl rfl (e_move (v := .int _ _) rfl) ?_
      refine pg_valB rfl rfl rfl rfl rfl (e_gtr rfl rfl) (fun hg20 => ?_) (fun hg20 => ?_)
      · refine p_val (e_pick_f rfl rfl) rfl ?_
        refine p_val (e_move (v := .bool _) rfl) rfl ?_
        refine p_no rfl rfl rfl rfl rfl ?_
        refine p_no rfl rfl rfl rfl rfl ?_
        refine p_no rfl rfl rfl rfl rfl ?_
        refine p_val (e_pick_t rfl rfl) rfl ?_
        exact p_nil (x_then ⟨_, rfl, _, _, upds_eq ⟨rfl, rfl, rfl, rfl, rfl, trivial⟩, by first | (simp only [decide_eq_true_eq, eq_self, true_iff, iff_true, iff_false, Bool.false_eq_true, false_iff, ge_iff_le, gt_iff_lt, true_and, and_true, false_and, and_false, true_or, or_true, false_or, or_false, not_true_eq_false, not_false_eq_true]; omega) | (simp; done) | omega | (simp_all; done), S⟩)
      · refine p_val (e_pick_f rfl rfl) rfl ?_
        refine p_val (e_move (v := .bool _) rfl) rfl ?_
        refine pg_val rfl rfl rfl rfl rfl (e_move (v := .slice _ _ _) rfl) ?_
        refine pg_val rfl rfl rfl rfl rfl (e_len rfl Try.underlying109) ?_
        refine pg_val rfl rfl rfl rfl rfl (e_gtr rfl rfl) ?_
        refine p_val (e_pick_f rfl rfl) rfl ?_
        exact p_nil (x_then ⟨_, rfl, _, _, upds_eq ⟨rfl, rfl, rfl, rfl, rfl, trivial⟩, by first | (simp only [decide_eq_true_eq, eq_self, true_iff, iff_true, iff_false, Bool.false_eq_true, false_iff, ge_iff_le, gt_iff_lt, true_and, and_true, false_and, and_false, true_or, or_true, false_or, or_false, not_true_eq_false, not_false_eq_true]; omega) | (simp; done) | omega | (simp_all; done), S⟩)
  · rintro f w ⟨u, b26, rfl, hb26, S⟩
    refine x_then ?_
    refine s_condb rfl (fun hc26 => ?_) (fun hc26 => ?_)
    · exact False.elim ((fun (hp26 : ((((n : Int) < (1 : Int)) ∨ ((3 : Int) < (n : Int))) ∨ ((4 : Int) < ((n0 : Nat) : Int)))) => by omega) (hb26.1 hc26))
    · have hp26 : ¬ ((((n : Int) < (1 : Int)) ∨ ((3 : Int) < (n : Int))) ∨ ((4 : Int) < ((n0 : Nat) : Int))) := fun h => by rw [hb26.2 h] at hc26; cases hc26
      refine s_skip (x_then (s_seq (s_plain ?_)))
      refine p_val (e_loadW 1 rfl ag29 sz29 S rfl rfl (by first | with_reducible assumption | (rw [bv_length]; with_reducible assumption) | (rw [List.size_toArray, bv_length]; with_reducible assumption) | (simp [cat, hs, length_mroot, Value.cells, rcpC, hq.1, hq.2, length_zsum]; done) | (simp [cat, hs, length_mroot, Value.cells, rcpC, hq.1, hq.2, length_zsum]; omega) | rfl)) rfl ?_
      refine p_val (e_move (v := .int _ _) rfl) rfl ?_
      refine p_does (d_call Try.func59 nm59 rfl rfl (mn_newL _ _ _ n rfl hs h1 (by omega))) rfl ?_
      rintro _ w ⟨b31, k31, c31, L, rfl, hLe, hLn, hLa, T⟩
      have S := S.merge T rfl
      refine p_val (e_move (v := .tuple _) rfl) rfl ?_
      refine p_val (e_extract rfl rfl) rfl ?_
      refine p_val (e_extract rfl rfl) rfl ?_
      refine p_val (e_assign (v := .pointer _) rfl) rfl ?_
      refine p_val (e_assign (v := .int _ _) rfl) rfl ?_
      refine p_nil (x_then (s_seq (s_seq ?_)))
      refine s_cutK (ks := [some b31, k31, some b7, some b4]) (ps := [Ex _ _, Rw _ _ _ _ _, Ex _ _, Ex _ _]) [(1, .int _ _), (2, .slice _ _ _), (7, .pointer _), (9, .pointer _)] ⟨rfl, rfl, rfl, rfl, trivial⟩ S (fun keep ks ps f' w' => ∃ u bb, f' = upds u ((39, .bool bb) :: keep) ∧ (bb = true ↔ False) ∧ St w0 w' [] ks ps) ?_ ?_
      · refine s_plain ?_
        refine p_val (e_move (v := .int _ _) rfl) rfl ?_
        refine p_valB (e_neq rfl rfl) rfl (fun hg35 => ?_) (fun hg35 => ?_)
        · exact False.elim (hg35 rfl)
        · refine p_val (e_move (v := .bool _) rfl) rfl ?_
          refine pg_val rfl rfl rfl rfl rfl (e_move (v := .pointer _) rfl) ?_
          refine pg_val rfl rfl rfl rfl rfl (e_eqlP rfl rfl Try.underlying91) ?_
          refine p_val (e_pick_f rfl rfl) rfl ?_
          exact p_nil (x_then ⟨_, rfl, _, _, upds_eq ⟨rfl, rfl, rfl, rfl, rfl, trivial⟩, by first | (simp only [decide_eq_true_eq, eq_self, true_iff, iff_true, iff_false, Bool.false_eq_true, false_iff, ge_iff_le, gt_iff_lt, true_and, and_true, false_and, and_false, true_or, or_true, false_or, or_false, not_true_eq_false, not_false_eq_true]; omega) | (simp; done) | omega | (simp_all; done), S⟩)
      · rintro f w ⟨u, b39, rfl, hb39, S⟩
        refine x_then ?_
        refine s_condb rfl (fun hc39 => ?_) (fun hc39 => ?_)
        · exact False.elim ((fun (hp39 : False) => hp39) (hb39.1 hc39))
        · have hp39 : ¬ False := fun h => by rw [hb39.2 h] at hc39; cases hc39
          refine s_skip (x_then (s_seq (s_plain ?_)))
          refine p_val (e_assign (v := .int _ _) rfl) rfl ?_
          refine p_nil (x_then (s_seq (s_seq (s_plain ?_))))
          refine p_val (e_assign (v := .int _ _) rfl) rfl ?_
          refine p_nil (x_then (s_block ?_))
          refine s_loopK (α := Nat) (ks := [some b31, k31, some b7, some b4]) (ps := [Ex _ _, Rw _ _ _ _ _, Ex _ _, Ex _ _]) [(1, .int _ _), (2, .slice _ _ _), (7, .pointer _), (9, .pointer _)] ⟨rfl, rfl, rfl, rfl, trivial⟩ S (fun keep ks ps g f' w' => ∃ u x, f' = upds u ((11, .int .i64 ((x : Nat) : Int)) :: (12, .int .i64 (g : Int)) :: keep) ∧ (g ≤ n0) ∧ (x ≤ L.length) ∧ St w0 w' [] [some b31, k31, some b7, some b4] [keyE k31 L.length c31 s (x : Int), (ps.getD 1 fun _ => True), (ps.getD 2 fun _ => True), (ps.getD 3 fun _ => True)]) (fun g => n0 - g) (0) (⟨_, 0, upds_eq ⟨rfl, rfl, rfl, rfl, rfl, rfl, trivial⟩, by first | omega | rfl | with_reducible assumption | (simp; done) | (simp; omega), by first | omega | rfl | with_reducible assumption | (simp; done) | (simp; omega), S⟩) ?_
          rintro g f w ⟨u, x, rfl, hg, hx, S⟩
          refine s_seq (s_seq (s_plain ?_))
          refine p_val (e_move (v := .int _ _) rfl) rfl ?_
          refine p_val (e_move (v := .slice _ _ _) rfl) rfl ?_
          refine p_val (e_len rfl Try.underlying109) rfl ?_
          refine p_val (e_lss rfl rfl) rfl ?_
          refine p_nil (x_then ?_)
          refine s_cond rfl (fun hc43 => ?_) (fun hc43 => ?_)
          · obtain ⟨r, hre⟩ : ∃ r, r = X.getD g rcp0 := ⟨_, rfl⟩
            have hat0 : X[g]? = some r := by rw [hre, List.getD_eq_getElem?_getD, List.getElem?_eq_getElem (by omega)]; rfl
            have hat : X[(g : Int).toNat]? = some r := hat0
            have hr : r.ok := hY _ (List.mem_of_getElem? hat0)
            have hcl : ∀ x ∈ X, (rcpV x).length = 67 := fun x hx => rcpV_len (hY x hx)
            refine s_skip (x_then (s_seq ?_))
            refine s_cutK (ks := [some b31, k31, some b7, some b4]) (ps := [Ex _ _, Rw _ _ _ _ _, Ex _ _, Ex _ _]) [(1, .int _ _), (2, .slice _ _ _), (7, .pointer _), (9, .pointer _), (12, .int _ _)] ⟨rfl, rfl, rfl, rfl, rfl, trivial⟩ S (fun keep ks ps f' w' => ∃ u x2, f' = upds u ((11, .int .i64 ((x2 : Nat) : Int)) :: keep) ∧ (x2 ≤ L.length) ∧ St w0 w' [] [some b31, k31, some b7, some b4] [keyE k31 L.length c31 s (x2 : Int), (ps.getD 1 fun _ => True), (ps.getD 2 fun _ => True), (ps.getD 3 fun _ => True)]) ?_ ?_
            · refine s_block (s_seq (s_plain ?_))
              refine p_val (e_move (v := .pointer _) rfl) rfl ?_
              refine p_val (e_move (v := .slice _ _ _) rfl) rfl ?_
              refine p_val (e_move (v := .int _ _) rfl) rfl ?_
              refine p_val (e_ixR (S.rdOld R rfl) (by decide) rfl rfl Try.underlying109 sz111 (by omega)) rfl ?_
              refine p_val (e_loadRA rfl ag111 sz111 (by decide) ((Rd.elemA (S.rdOld R rfl) (hcl) (hat)))) rfl ?_
              refine p_does (d_call Try.func75 nm75 rfl rfl (rc_sign _ _ _ _ s x L r (S.hr [0, 1] rfl) hs hLa (by omega) hx hr)) rfl ?_
              rintro _ w ⟨k52, c52, o52, e52, x52, rfl, hno52, hyes52, hend52, hx52, T⟩
              have S := (S.call [0, 1] T rfl).pk [0, 1, 2, 5, 6] rfl
              refine p_val (e_move (v := .tuple _) rfl) rfl ?_
              refine p_val (e_extract rfl rfl) rfl ?_
              refine p_val (e_extract rfl rfl) rfl ?_
              refine p_val (e_assign (v := .slice _ _ _) rfl) rfl ?_
              refine p_val (e_assign (v := .int _ _) rfl) rfl ?_
              refine p_nil (x_then (s_seq (s_seq (s_plain ?_))))
              refine p_val (e_move (v := .slice _ _ _) rfl) rfl ?_
              refine p_val (e_move (v := .int _ _) rfl) rfl ?_
              refine p_val (e_ixR (S.rdOld R rfl) (by decide) rfl rfl Try.underlying109 sz111 (by omega)) rfl ?_
              refine p_val (e_loadRA rfl ag111 sz111 (by decide) ((Rd.elemA (S.rdOld R rfl) (hcl) (hat)))) rfl ?_
              refine p_does (d_call Try.func76 nm76 rfl rfl (l12right _ r hr)) rfl ?_
              rintro _ w ⟨rfl, hB⟩
              have S := S.below hB
              refine p_val (e_not rfl) rfl ?_
              refine p_nil (x_then ?_)
              refine s_condb rfl (fun hc60 => ?_) (fun hc60 => ?_)
              · have hno : ¬ r.right := by simpa using hc60
                obtain ⟨rfl, rfl, rfl⟩ := hno52 hno
                refine s_seq (s_seq ?_)
                refine s_cutK (ks := [k52, some b31, k31, some b7, some b4]) (ps := [Rw _ _ _ _ _, Ex _ _, Rw _ _ _ _ _, Ex _ _, Ex _ _]) [(1, .int _ _), (2, .slice _ _ _), (7, .pointer _), (9, .pointer _), (11, .int _ _), (12, .int _ _)] ⟨rfl, rfl, rfl, rfl, rfl, rfl, trivial⟩ S (fun keep ks ps f' w' => ∃ u bb, f' = upds u ((73, .bool bb) :: keep) ∧ (bb = true ↔ False) ∧ St w0 w' [] ks ps) ?_ ?_
                · refine s_plain ?_
                  refine p_val (e_move (v := .int _ _) rfl) rfl ?_
                  refine p_valB (e_neq rfl rfl) rfl (fun hg62 => ?_) (fun hg62 => ?_)
                  · exact False.elim (hg62 rfl)
                  · refine p_val (e_move (v := .bool _) rfl) rfl ?_
                    refine pg_val rfl rfl rfl rfl rfl (e_move (v := .slice _ _ _) rfl) ?_
                    refine pg_val rfl rfl rfl rfl rfl (e_len rfl Try.underlying33) ?_
                    refine pg_valB rfl rfl rfl rfl rfl (e_neq rfl rfl) (fun hg66 => ?_) (fun hg66 => ?_)
                    · exact False.elim (by simp at hg66)
                    · refine p_val (e_pick_f rfl rfl) rfl ?_
                      refine p_val (e_move (v := .bool _) rfl) rfl ?_
                      refine pg_val rfl rfl rfl rfl rfl (e_move (v := .pointer _) rfl) ?_
                      refine pg_does rfl rfl rfl rfl rfl (d_call Try.func70 nm70 rfl rfl (mn_next _ _ _ _ _ _ _ _ (S.hr [1, 2] rfl) (by first | with_reducible assumption | (rw [bv_length]; with_reducible assumption) | (rw [List.size_toArray, bv_length]; with_reducible assumption) | (simp [cat, hs, length_mroot, Value.cells, rcpC, hq.1, hq.2, length_zsum]; done) | (simp [cat, hs, length_mroot, Value.cells, rcpC, hq.1, hq.2, length_zsum]; omega) | rfl))) ?_
                      rintro _ w ⟨rfl, T⟩
                      have S := (S.call [1, 2] T rfl).pk [2, 0, 1, 5, 6] rfl
                      refine pg_val rfl rfl rfl rfl rfl (e_move (v := .int _ _) rfl) ?_
                      refine pg_val rfl rfl rfl rfl rfl (e_neq rfl rfl) ?_
                      refine p_val (e_pick_f rfl rfl) rfl ?_
                      exact p_nil (x_then ⟨_, rfl, _, _, upds_eq ⟨rfl, rfl, rfl, rfl, rfl, rfl, rfl, trivial⟩, by first | (simp only [decide_eq_true_eq, eq_self, true_iff, iff_true, iff_false, Bool.false_eq_true, false_iff, ge_iff_le, gt_iff_lt, true_and, and_true, false_and, and_false, true_or, or_true, false_or, or_false, not_true_eq_false, not_false_eq_true]; omega) | (simp; done) | omega | (simp_all; done), S⟩)
                · rintro f w ⟨u, b73, rfl, hb73, S⟩
                  refine x_then ?_
                  refine s_condb rfl (fun hc73 => ?_) (fun hc73 => ?_)
                  · exact False.elim ((fun (hp73 : False) => hp73) (hb73.1 hc73))
                  · have hp73 : ¬ False := fun h => by rw [hb73.2 h] at hc73; cases hc73
                    refine s_skip (x_then (s_exit (x_then_exit (x_in_same ?_))))
                    exact x_then ⟨_, rfl, _, _, upds_eq ⟨rfl, rfl, rfl, rfl, rfl, rfl, trivial⟩, by first | omega | rfl | with_reducible assumption | (simp; done) | (simp; omega), S.pk [1, 2, 3, 4] rfl⟩
              · have hyes : r.right := by simpa using hc60
                refine s_skip (x_then (s_seq (s_seq (s_plain ?_))))
                refine p_val (e_move (v := .int _ _) rfl) rfl ?_
                refine p_val (e_move (v := .int _ _) rfl) rfl ?_
                refine p_val (e_geq rfl rfl) rfl ?_
                refine p_nil (x_then ?_)
                refine s_cond rfl (fun hc76 => ?_) (fun hc76 => ?_)
                · obtain ⟨rfl, rfl, rfl⟩ := hend52 hyes (by omega)
                  refine s_seq (s_seq (s_plain ?_))
                  refine p_val (e_move (v := .int _ _) rfl) rfl ?_
                  refine p_val (e_neq rfl rfl) rfl ?_
                  refine p_nil (x_then ?_)
                  refine s_cond rfl (fun hc78 => ?_) (fun hc78 => ?_)
                  · exact False.elim (hc78 rfl)
                  · refine s_skip (x_then (s_exit (x_then_exit (x_in_same ?_))))
                    exact x_then ⟨_, rfl, _, _, upds_eq ⟨rfl, rfl, rfl, rfl, rfl, rfl, trivial⟩, by first | omega | rfl | with_reducible assumption | (simp; done) | (simp; omega), S.pk [1, 2, 3, 4] rfl⟩
                · obtain ⟨ho, rfl, rfl⟩ := hyes52 hyes (by omega)
                  have hob : Bytes o52 := by rw [ho]; exact msig_bytes _ _ _ _
                  have hol : o52.length ≤ 4200 + 32 * L.length := by rw [ho]; exact msig_len _ _ _ _
                  have hver : mver (mroot L) (rtext r) o52 := by rw [ho]; exact mver_sign (by omega) (by omega) (by rw [hLe]; exact mkeys_getD s n x (by omega))
                  refine s_skip (x_then (s_seq (s_plain ?_)))
                  refine p_val (e_move (v := .int _ _) rfl) rfl ?_
                  refine p_val (e_add64 rfl rfl (by omega)) rfl ?_
                  refine p_val (e_assign (v := .int _ _) rfl) rfl ?_
                  refine p_nil (x_then (s_seq (s_plain ?_)))
                  refine p_val (e_move (v := .slice _ _ _) rfl) rfl ?_
                  refine p_val (e_move (v := .int _ _) rfl) rfl ?_
                  refine p_val (e_ixR (S.rdOld R rfl) (by decide) rfl rfl Try.underlying109 sz111 (by omega)) rfl ?_
                  refine p_val (e_loadRA rfl ag111 sz111 (by decide) ((Rd.elemA (S.rdOld R rfl) (hcl) (hat)))) rfl ?_
                  refine p_val (e_move (v := .slice _ _ _) rfl) rfl ?_
                  refine p_val (e_buildS bt115 (Eq.trans (fill_cat (v := .agg _) (l' := _) 0 5 rfl (rfl) (by first | with_reducible assumption | (rw [bv_length]; with_reducible assumption) | (rw [List.size_toArray, bv_length]; with_reducible assumption) | (simp [cat, hs, length_mroot, Value.cells, rcpC, hq.1, hq.2, length_zsum, sgdC, hr.1, hr.2, zc115]; done) | (simp [cat, hs, length_mroot, Value.cells, rcpC, hq.1, hq.2, length_zsum, sgdC, hr.1, hr.2, zc115]; omega) | rfl) (by first | with_reducible assumption | (rw [bv_length]; with_reducible assumption) | (rw [List.size_toArray, bv_length]; with_reducible assumption) | (simp [cat, hs, length_mroot, Value.cells, rcpC, hq.1, hq.2, length_zsum, sgdC, hr.1, hr.2, zc115]; done) | (simp [cat, hs, length_mroot, Value.cells, rcpC, hq.1, hq.2, length_zsum, sgdC, hr.1, hr.2, zc115]; omega) | rfl) (by first | with_reducible assumption | (rw [bv_length]; with_reducible assumption) | (rw [List.size_toArray, bv_length]; with_reducible assumption) | (simp [cat, hs, length_mroot, Value.cells, rcpC, hq.1, hq.2, length_zsum, sgdC, hr.1, hr.2, zc115]; done) | (simp [cat, hs, length_mroot, Value.cells, rcpC, hq.1, hq.2, length_zsum, sgdC, hr.1, hr.2, zc115]; omega) | rfl)) (Eq.trans (fill_cat (v := .slice _ _ _) (l' := [[_]]) 5 1 rfl (rfl) (by first | with_reducible assumption | (rw [bv_length]; with_reducible assumption) | (rw [List.size_toArray, bv_length]; with_reducible assumption) | (simp [cat, hs, length_mroot, Value.cells, rcpC, hq.1, hq.2, length_zsum, sgdC, hr.1, hr.2, zc115]; done) | (simp [cat, hs, length_mroot, Value.cells, rcpC, hq.1, hq.2, length_zsum, sgdC, hr.1, hr.2, zc115]; omega) | rfl) (by first | with_reducible assumption | (rw [bv_length]; with_reducible assumption) | (rw [List.size_toArray, bv_length]; with_reducible assumption) | (simp [cat, hs, length_mroot, Value.cells, rcpC, hq.1, hq.2, length_zsum, sgdC, hr.1, hr.2, zc115]; done) | (simp [cat, hs, length_mroot, Value.cells, rcpC, hq.1, hq.2, length_zsum, sgdC, hr.1, hr.2, zc115]; omega) | rfl) (by first | with_reducible assumption | (rw [bv_length]; with_reducible assumption) | (rw [List.size_toArray, bv_length]; with_reducible assumption) | (simp [cat, hs, length_mroot, Value.cells, rcpC, hq.1, hq.2, length_zsum, sgdC, hr.1, hr.2, zc115]; done) | (simp [cat, hs, length_mroot, Value.cells, rcpC, hq.1, hq.2, length_zsum, sgdC, hr.1, hr.2, zc115]; omega) | rfl)) rfl))) rfl ?_
                  refine p_does (d_allocA S zs115) rfl ?_
                  rintro _ w ⟨b15, rfl, S⟩
                  refine p_does (d_storeW S 0 rfl rfl (by first | exact bv_one _ | exact sv_one _ | exact iv_one _ | with_reducible assumption | (refine One.mem ?_; repeat (first | exact One.bv _ | exact One.sv _ | exact One.iv _ | exact One.nil | exact One.cat0 | refine One.cat1 ?_ ?_ | refine One.cons rfl ?_ | refine One.append ?_ ?_))) sz115 (by first | with_reducible assumption | (rw [bv_length]; with_reducible assumption) | (rw [List.size_toArray, bv_length]; with_reducible assumption) | (simp [cat, hs, length_mroot, Value.cells, rcpC, hq.1, hq.2, length_zsum, sgdC, hr.1, hr.2, zc115]; done) | (simp [cat, hs, length_mroot, Value.cells, rcpC, hq.1, hq.2, length_zsum, sgdC, hr.1, hr.2, zc115]; omega) | rfl) rfl rfl (by first | with_reducible assumption | (rw [bv_length]; with_reducible assumption) | (rw [List.size_toArray, bv_length]; with_reducible assumption) | (simp [cat, hs, length_mroot, Value.cells, rcpC, hq.1, hq.2, length_zsum, sgdC, hr.1, hr.2, zc115]; done) | (simp [cat, hs, length_mroot, Value.cells, rcpC, hq.1, hq.2, length_zsum, sgdC, hr.1, hr.2, zc115]; omega) | rfl)) rfl ?_
                  intro _ w S
                  refine p_nil (x_then (s_seq ?_))
                  have hqt := rtext_len hq
                  have hcap := S.capRw 1 rfl rfl
                  refine s_cutK (ks := [some b15, k52, some b31, k31, some b7, some b4]) (ps := [Ex _ _, Rw _ _ _ _ _, Ex _ _, Rw _ _ _ _ _, Ex _ _, Ex _ _]) [(1, .int _ _), (2, .slice _ _ _), (7, .pointer _), (9, .pointer _), (11, .int _ _), (12, .int _ _)] ⟨rfl, rfl, rfl, rfl, rfl, rfl, trivial⟩ S (fun keep ks ps f' w' => ∃ u bb, f' = upds u ((124, .bool bb) :: keep) ∧ (bb = true ↔ False) ∧ St w0 w' [] ks ps) ?_ ?_
                  · refine s_drawK (ks := [some b15, k52, some b31, k31, some b7, some b4]) (ps := [Ex _ _, Rw _ _ _ _ _, Ex _ _, Rw _ _ _ _ _, Ex _ _, Ex _ _]) S [(true, 0), (true, 1), (true, 2), (true, 3), (true, 4), (false, 5), (false, 6), (true, 7), (true, 8), (true, 9), (true, 10), (true, 12), (true, 13), (true, 14), (true, 15), (true, 16), (false, 11), (false, 17), (true, 18), (true, 19), (true, 20), (true, 21), (true, 23), (true, 24), (true, 26), (false, 22), (false, 25), (false, 27), (true, 28), (true, 29), (true, 31), (true, 33), (false, 30), (false, 32), (false, 34), (true, 35), (true, 36), (true, 37)] [] [] mixed (by kernel_rfl) (by repeat (first | exact Calm.post _ _ _ | refine Calm.then ?_ _ | refine Calm.inB ?_ _)) (fun hS => ?_)
                    have S := S.drew
                    refine q_val (fun w hS => e_move (v := .int _ _) rfl) rfl hS ?_
                    refine q_valB (fun w hS => e_neq rfl rfl) rfl hS (fun hg88 => ?_) (fun hg88 => ?_)
                    · exact False.elim (hg88 rfl)
                    · refine q_val (fun w hS => e_move (v := .bool _) rfl) rfl hS ?_
                      refine qg_val rfl rfl rfl rfl rfl (fun w hS => e_loadW 0 rfl ag115 sz115 hS rfl rfl (by first | with_reducible assumption | (rw [bv_length]; with_reducible assumption) | (rw [List.size_toArray, bv_length]; with_reducible assumption) | (simp [cat, hs, length_mroot, Value.cells, rcpC, hq.1, hq.2, length_zsum, sgdC, hr.1, hr.2, zc115]; done) | (simp [cat, hs, length_mroot, Value.cells, rcpC, hq.1, hq.2, length_zsum, sgdC, hr.1, hr.2, zc115]; omega) | rfl)) hS ?_
                      refine qg_val rfl rfl rfl rfl rfl (fun w hS => e_move (v := .pointer _) rfl) hS ?_
                      refine qg_does rfl rfl rfl rfl rfl (d_call Try.func72 nm72 rfl rfl (mn_root _ _ _ _ _ _ _ (S.hr [2, 3] rfl) (by first | with_reducible assumption | (rw [bv_length]; with_reducible assumption) | (rw [List.size_toArray, bv_length]; with_reducible assumption) | (simp [cat, hs, length_mroot, Value.cells, rcpC, hq.1, hq.2, length_zsum]; done) | (simp [cat, hs, length_mroot, Value.cells, rcpC, hq.1, hq.2, length_zsum]; omega) | rfl) (by with_reducible assumption) (by omega))) ?_
                      rintro _ w ⟨rfl, T⟩
                      have S := (S.call [2, 3] T rfl).pk [2, 3, 0, 1, 6, 7] rfl
                      have hS := S.pk [0, 1, 2, 3, 4, 5] rfl
                      refine ⟨hS, ?_⟩
                      refine qg_does rfl rfl rfl rfl rfl (d_call Try.func77 nm77 rfl rfl (rc_good _ (mroot L) r _ _ o52 (length_mroot _) hr (S.rdRw 1 rfl rfl) hob (by omega) (by omega))) ?_
                      rintro _ w ⟨rfl, hB⟩
                      have S := S.below hB
                      have hS := S.pk [0, 1, 2, 3, 4, 5] rfl
                      refine ⟨hS, ?_⟩
                      rcases Classical.em ((r.right ∧ mver (mroot L) (rtext r) o52)) with hg93 | hg93
                      · rw [decide_eq_true hg93]
                        refine qg_val rfl rfl rfl rfl rfl (fun w hS => e_not rfl) hS ?_
                        refine q_val (fun w hS => e_pick_f rfl rfl) rfl hS ?_
                        refine q_val (fun w hS => e_move (v := .bool _) rfl) rfl hS ?_
                        refine qg_val rfl rfl rfl rfl rfl (fun w hS => e_move (v := .pointer _) rfl) hS ?_
                        refine qg_val rfl rfl rfl rfl rfl (fun w hS => e_move (v := .slice _ _ _) rfl) hS ?_
                        refine qg_val rfl rfl rfl rfl rfl (fun w hS => e_move (v := .int _ _) rfl) hS ?_
                        refine qg_val rfl rfl rfl rfl rfl (fun w hS => e_ixR (hS.rdOld R rfl) (by decide) rfl rfl Try.underlying109 sz111 (by omega)) hS ?_
                        refine qg_val rfl rfl rfl rfl rfl (fun w hS => e_loadRA rfl ag111 sz111 (by decide) ((Rd.elemA (hS.rdOld R rfl) (hcl) (hat)))) hS ?_
                        refine qg_val rfl rfl rfl rfl rfl (fun w hS => e_move (v := .slice _ _ _) rfl) hS ?_
                        refine qg_does rfl rfl rfl rfl rfl (d_call Try.func72 nm72 rfl rfl (mn_root _ _ _ _ _ _ _ (S.hr [2, 3] rfl) (by first | with_reducible assumption | (rw [bv_length]; with_reducible assumption) | (rw [List.size_toArray, bv_length]; with_reducible assumption) | (simp [cat, hs, length_mroot, Value.cells, rcpC, hq.1, hq.2, length_zsum]; done) | (simp [cat, hs, length_mroot, Value.cells, rcpC, hq.1, hq.2, length_zsum]; omega) | rfl) (by with_reducible assumption) (by omega))) ?_
                        rintro _ w ⟨rfl, T⟩
                        have S := (S.call [2, 3] T rfl).pk [2, 3, 0, 1, 6, 7] rfl
                        have hS := S.pk [0, 1, 2, 3, 4, 5] rfl
                        refine ⟨hS, ?_⟩
                        refine qg_does rfl rfl rfl rfl rfl (d_call Try.func78 nm78 rfl rfl (rc_verify _ (mroot L) r _ _ o52 (length_mroot _) hr (S.rdRw 1 rfl rfl) hob hcap (by omega))) ?_
                        rintro _ w ⟨rfl, hB⟩
                        have S := S.below hB
                        have hS := S.pk [0, 1, 2, 3, 4, 5] rfl
                        refine ⟨hS, ?_⟩
                        rcases Classical.em ((r.right ∧ mver (mroot L) (rtext r) o52)) with hg104 | hg104
                        · rw [decide_eq_true hg104]
                          refine qg_val rfl rfl rfl rfl rfl (fun w hS => e_not rfl) hS ?_
                          refine q_val (fun w hS => e_pick_f rfl rfl) rfl hS ?_
                          refine q_val (fun w hS => e_move (v := .bool _) rfl) rfl hS ?_
                          refine qg_val rfl rfl rfl rfl rfl (fun w hS => e_move (v := .pointer _) rfl) hS ?_
                          refine qg_val rfl rfl rfl rfl rfl (fun w hS => e_loadW 4 rfl ag111 sz111 hS rfl rfl (by first | with_reducible assumption | (rw [bv_length]; with_reducible assumption) | (rw [List.size_toArray, bv_length]; with_reducible assumption) | (simp [cat, hs, length_mroot, Value.cells, rcpC, hq.1, hq.2, length_zsum]; done) | (simp [cat, hs, length_mroot, Value.cells, rcpC, hq.1, hq.2, length_zsum]; omega) | rfl)) hS ?_
                          refine qg_val rfl rfl rfl rfl rfl (fun w hS => e_move (v := .slice _ _ _) rfl) hS ?_
                          refine qg_val rfl rfl rfl rfl rfl (fun w hS => e_loadW 4 rfl ag111 sz111 hS rfl rfl (by first | with_reducible assumption | (rw [bv_length]; with_reducible assumption) | (rw [List.size_toArray, bv_length]; with_reducible assumption) | (simp [cat, hs, length_mroot, Value.cells, rcpC, hq.1, hq.2, length_zsum]; done) | (simp [cat, hs, length_mroot, Value.cells, rcpC, hq.1, hq.2, length_zsum]; omega) | rfl)) hS ?_
                          refine qg_does rfl rfl rfl rfl rfl (d_call Try.func72 nm72 rfl rfl (mn_root _ _ _ _ _ _ _ (S.hr [2, 3] rfl) (by first | with_reducible assumption | (rw [bv_length]; with_reducible assumption) | (rw [List.size_toArray, bv_length]; with_reducible assumption) | (simp [cat, hs, length_mroot, Value.cells, rcpC, hq.1, hq.2, length_zsum]; done) | (simp [cat, hs, length_mroot, Value.cells, rcpC, hq.1, hq.2, length_zsum]; omega) | rfl) (by with_reducible assumption) (by omega))) ?_
                          rintro _ w ⟨rfl, T⟩
                          have S := (S.call [2, 3] T rfl).pk [2, 3, 0, 1, 6, 7] rfl
                          have hS := S.pk [0, 1, 2, 3, 4, 5] rfl
                          refine ⟨hS, ?_⟩
                          refine qg_does rfl rfl rfl rfl rfl (d_call Try.func78 nm78 rfl rfl (rc_verify _ (mroot L) q _ _ o52 (length_mroot _) hq (S.rdRw 1 rfl rfl) hob hcap (by omega))) ?_
                          rintro _ w ⟨rfl, hB⟩
                          have S := S.below hB
                          have hS := S.pk [0, 1, 2, 3, 4, 5] rfl
                          refine ⟨hS, ?_⟩
                          rcases Classical.em ((q.right ∧ mver (mroot L) (rtext q) o52)) with hg112 | hg112
                          · rw [decide_eq_true hg112]
                            refine qg_does rfl rfl rfl rfl rfl (d_call Try.func76 nm76 rfl rfl (l12right _ q hq)) ?_
                            rintro _ w ⟨rfl, hB⟩
                            have S := S.below hB
                            have hS := S.pk [0, 1, 2, 3, 4, 5] rfl
                            refine ⟨hS, ?_⟩
                            rcases Classical.em (q.right) with hg114 | hg114
                            · rw [decide_eq_true hg114]
                              refine qg_val rfl rfl rfl rfl rfl (fun w hS => e_move (v := .bool _) rfl) hS ?_
                              refine qg_val rfl rfl rfl rfl rfl (fun w hS => e_move (v := .pointer _) rfl) hS ?_
                              refine qg_val rfl rfl rfl rfl rfl (fun w hS => e_loadW 4 rfl ag111 sz111 hS rfl rfl (by first | with_reducible assumption | (rw [bv_length]; with_reducible assumption) | (rw [List.size_toArray, bv_length]; with_reducible assumption) | (simp [cat, hs, length_mroot, Value.cells, rcpC, hq.1, hq.2, length_zsum]; done) | (simp [cat, hs, length_mroot, Value.cells, rcpC, hq.1, hq.2, length_zsum]; omega) | rfl)) hS ?_
                              refine qg_val rfl rfl rfl rfl rfl (fun w hS => e_move (v := .slice _ _ _) rfl) hS ?_
                              refine qg_does rfl rfl rfl rfl rfl (d_call Try.func72 nm72 rfl rfl (mn_root _ _ _ _ _ _ _ (S.hr [2, 3] rfl) (by first | with_reducible assumption | (rw [bv_length]; with_reducible assumption) | (rw [List.size_toArray, bv_length]; with_reducible assumption) | (simp [cat, hs, length_mroot, Value.cells, rcpC, hq.1, hq.2, length_zsum]; done) | (simp [cat, hs, length_mroot, Value.cells, rcpC, hq.1, hq.2, length_zsum]; omega) | rfl) (by with_reducible assumption) (by omega))) ?_
                              rintro _ w ⟨rfl, T⟩
                              have S := (S.call [2, 3] T rfl).pk [2, 3, 0, 1, 6, 7] rfl
                              have hS := S.pk [0, 1, 2, 3, 4, 5] rfl
                              refine ⟨hS, ?_⟩
                              refine qg_does rfl rfl rfl rfl rfl (d_call Try.func79 nm79 rfl rfl (l12text _ q hq)) ?_
                              rintro _ w ⟨k119, c119, rfl, T⟩
                              have S := S.merge T rfl
                              have hS := S.pk [1, 2, 3, 4, 5, 6] rfl
                              refine ⟨hS, ?_⟩
                              refine qg_does rfl rfl rfl rfl rfl (d_call Try.func69 nm69 rfl rfl (mn_verify _ (mroot L) _ _ _ (rtext q) _ _ o52 (length_mroot _) (S.rdRw 0 rfl rfl) (by omega) (S.rdRw 2 rfl rfl) hob hcap (by omega))) ?_
                              rintro _ w ⟨rfl, hB⟩
                              have S := S.below hB
                              have hS := S.pk [1, 2, 3, 4, 5, 6] rfl
                              refine ⟨hS, ?_⟩
                              rcases Classical.em (mver (mroot L) (rtext q) o52) with hg121 | hg121
                              · rw [decide_eq_true hg121]
                                refine qg_val rfl rfl rfl rfl rfl (fun w hS => e_pick_t rfl rfl) hS ?_
                                refine qg_val rfl rfl rfl rfl rfl (fun w hS => e_neqB rfl rfl Try.underlying4) hS ?_
                                refine q_val (fun w hS => e_pick_f rfl rfl) rfl hS ?_
                                refine q_nil ?_
                                exact p_nil (x_then ⟨_, rfl, _, _, upds_eq ⟨rfl, rfl, rfl, rfl, rfl, rfl, rfl, trivial⟩, by first | decide | exact absurd hg112.2 hg121 | exact absurd hg112.1 hg114 | exact absurd ⟨hg114, hg121⟩ hg112, S.pk [1, 2, 3, 4, 5, 6] rfl⟩)
                              · rw [decide_eq_false hg121]
                                refine qg_val rfl rfl rfl rfl rfl (fun w hS => e_pick_t rfl rfl) hS ?_
                                refine qg_val rfl rfl rfl rfl rfl (fun w hS => e_neqB rfl rfl Try.underlying4) hS ?_
                                refine q_val (fun w hS => e_pick_f rfl rfl) rfl hS ?_
                                refine q_nil ?_
                                exact p_nil (x_then ⟨_, rfl, _, _, upds_eq ⟨rfl, rfl, rfl, rfl, rfl, rfl, rfl, trivial⟩, by first | decide | exact absurd hg112.2 hg121 | exact absurd hg112.1 hg114 | exact absurd ⟨hg114, hg121⟩ hg112, S.pk [1, 2, 3, 4, 5, 6] rfl⟩)
                            · rw [decide_eq_false hg114]
                              refine qg_val rfl rfl rfl rfl rfl (fun w hS => e_move (v := .bool _) rfl) hS ?_
                              refine q_no rfl rfl rfl rfl rfl hS ?_
                              refine q_no rfl rfl rfl rfl rfl hS ?_
                              refine q_no rfl rfl rfl rfl rfl hS ?_
                              refine q_no rfl rfl rfl rfl rfl hS ?_
                              refine q_no rfl rfl rfl rfl rfl hS ?_
                              refine q_no rfl rfl rfl rfl rfl hS ?_
                              refine qg_val rfl rfl rfl rfl rfl (fun w hS => e_pick_f rfl rfl) hS ?_
                              refine qg_val rfl rfl rfl rfl rfl (fun w hS => e_neqB rfl rfl Try.underlying4) hS ?_
                              refine q_val (fun w hS => e_pick_f rfl rfl) rfl hS ?_
                              refine q_nil ?_
                              exact p_nil (x_then ⟨_, rfl, _, _, upds_eq ⟨rfl, rfl, rfl, rfl, rfl, rfl, rfl, trivial⟩, by first | decide | exact absurd hg112.2 hg121 | exact absurd hg112.1 hg114 | exact absurd ⟨hg114, hg121⟩ hg112, S⟩)
                          · rw [decide_eq_false hg112]
                            refine qg_does rfl rfl rfl rfl rfl (d_call Try.func76 nm76 rfl rfl (l12right _ q hq)) ?_
                            rintro _ w ⟨rfl, hB⟩
                            have S := S.below hB
                            have hS := S.pk [0, 1, 2, 3, 4, 5] rfl
                            refine ⟨hS, ?_⟩
                            rcases Classical.em (q.right) with hg114 | hg114
                            · rw [decide_eq_true hg114]
                              refine qg_val rfl rfl rfl rfl rfl (fun w hS => e_move (v := .bool _) rfl) hS ?_
                              refine qg_val rfl rfl rfl rfl rfl (fun w hS => e_move (v := .pointer _) rfl) hS ?_
                              refine qg_val rfl rfl rfl rfl rfl (fun w hS => e_loadW 4 rfl ag111 sz111 hS rfl rfl (by first | with_reducible assumption | (rw [bv_length]; with_reducible assumption) | (rw [List.size_toArray, bv_length]; with_reducible assumption) | (simp [cat, hs, length_mroot, Value.cells, rcpC, hq.1, hq.2, length_zsum]; done) | (simp [cat, hs, length_mroot, Value.cells, rcpC, hq.1, hq.2, length_zsum]; omega) | rfl)) hS ?_
                              refine qg_val rfl rfl rfl rfl rfl (fun w hS => e_move (v := .slice _ _ _) rfl) hS ?_
                              refine qg_does rfl rfl rfl rfl rfl (d_call Try.func72 nm72 rfl rfl (mn_root _ _ _ _ _ _ _ (S.hr [2, 3] rfl) (by first | with_reducible assumption | (rw [bv_length]; with_reducible assumption) | (rw [List.size_toArray, bv_length]; with_reducible assumption) | (simp [cat, hs, length_mroot, Value.cells, rcpC, hq.1, hq.2, length_zsum]; done) | (simp [cat, hs, length_mroot, Value.cells, rcpC, hq.1, hq.2, length_zsum]; omega) | rfl) (by with_reducible assumption) (by omega))) ?_
                              rintro _ w ⟨rfl, T⟩
                              have S := (S.call [2, 3] T rfl).pk [2, 3, 0, 1, 6, 7] rfl
                              have hS := S.pk [0, 1, 2, 3, 4, 5] rfl
                              refine ⟨hS, ?_⟩
                              refine qg_does rfl rfl rfl rfl rfl (d_call Try.func79 nm79 rfl rfl (l12text _ q hq)) ?_
                              rintro _ w ⟨k119, c119, rfl, T⟩
                              have S := S.merge T rfl
                              have hS := S.pk [1, 2, 3, 4, 5, 6] rfl
                              refine ⟨hS, ?_⟩
                              refine qg_does rfl rfl rfl rfl rfl (d_call Try.func69 nm69 rfl rfl (mn_verify _ (mroot L) _ _ _ (rtext q) _ _ o52 (length_mroot _) (S.rdRw 0 rfl rfl) (by omega) (S.rdRw 2 rfl rfl) hob hcap (by omega))) ?_
                              rintro _ w ⟨rfl, hB⟩
                              have S := S.below hB
                              have hS := S.pk [1, 2, 3, 4, 5, 6] rfl
                              refine ⟨hS, ?_⟩
                              rcases Classical.em (mver (mroot L) (rtext q) o52) with hg121 | hg121
                              · rw [decide_eq_true hg121]
                                refine qg_val rfl rfl rfl rfl rfl (fun w hS => e_pick_t rfl rfl) hS ?_
                                refine qg_val rfl rfl rfl rfl rfl (fun w hS => e_neqB rfl rfl Try.underlying4) hS ?_
                                refine q_val (fun w hS => e_pick_f rfl rfl) rfl hS ?_
                                refine q_nil ?_
                                exact p_nil (x_then ⟨_, rfl, _, _, upds_eq ⟨rfl, rfl, rfl, rfl, rfl, rfl, rfl, trivial⟩, by first | decide | exact absurd hg112.2 hg121 | exact absurd hg112.1 hg114 | exact absurd ⟨hg114, hg121⟩ hg112, S.pk [1, 2, 3, 4, 5, 6] rfl⟩)
                              · rw [decide_eq_false hg121]
                                refine qg_val rfl rfl rfl rfl rfl (fun w hS => e_pick_t rfl rfl) hS ?_
                                refine qg_val rfl rfl rfl rfl rfl (fun w hS => e_neqB rfl rfl Try.underlying4) hS ?_
                                refine q_val (fun w hS => e_pick_f rfl rfl) rfl hS ?_
                                refine q_nil ?_
                                exact p_nil (x_then ⟨_, rfl, _, _, upds_eq ⟨rfl, rfl, rfl, rfl, rfl, rfl, rfl, trivial⟩, by first | decide | exact absurd hg112.2 hg121 | exact absurd hg112.1 hg114 | exact absurd ⟨hg114, hg121⟩ hg112, S.pk [1, 2, 3, 4, 5, 6] rfl⟩)
                            · rw [decide_eq_false hg114]
                              refine qg_val rfl rfl rfl rfl rfl (fun w hS => e_move (v := .bool _) rfl) hS ?_
                              refine q_no rfl rfl rfl rfl rfl hS ?_
                              refine q_no rfl rfl rfl rfl rfl hS ?_
                              refine q_no rfl rfl rfl rfl rfl hS ?_
                              refine q_no rfl rfl rfl rfl rfl hS ?_
                              refine q_no rfl rfl rfl rfl rfl hS ?_
                              refine q_no rfl rfl rfl rfl rfl hS ?_
                              refine qg_val rfl rfl rfl rfl rfl (fun w hS => e_pick_f rfl rfl) hS ?_
                              refine qg_val rfl rfl rfl rfl rfl (fun w hS => e_neqB rfl rfl Try.underlying4) hS ?_
                              refine q_val (fun w hS => e_pick_f rfl rfl) rfl hS ?_
                              refine q_nil ?_
                              exact p_nil (x_then ⟨_, rfl, _, _, upds_eq ⟨rfl, rfl, rfl, rfl, rfl, rfl, rfl, trivial⟩, by first | decide | exact absurd hg112.2 hg121 | exact absurd hg112.1 hg114 | exact absurd ⟨hg114, hg121⟩ hg112, S⟩)
                        · exact False.elim (hg104 ⟨hyes, hver⟩)
                      · exact False.elim (hg93 ⟨hyes, hver⟩)
                  · rintro f w ⟨u, b124, rfl, hb124, S⟩
                    refine x_then ?_
                    refine s_condb rfl (fun hc124 => ?_) (fun hc124 => ?_)
                    · exact False.elim ((fun (hp124 : False) => hp124) (hb124.1 hc124))
                    · have hp124 : ¬ False := fun h => by rw [hb124.2 h] at hc124; cases hc124
                      refine s_skip (x_in ?_)
                      exact x_then ⟨_, rfl, _, _, upds_eq ⟨rfl, rfl, rfl, rfl, rfl, rfl, trivial⟩, by first | omega | rfl | with_reducible assumption | (simp; done) | (simp; omega), S.pk [2, 3, 4, 5] rfl⟩
            · rintro f w ⟨u, x2, rfl, hx2, S⟩
              refine x_then (s_plain ?_)
              refine p_val (e_move (v := .int _ _) rfl) rfl ?_
              refine p_val (e_add64 rfl rfl (by omega)) rfl ?_
              refine p_val (e_assign (v := .int _ _) rfl) rfl ?_
              refine p_nil ?_
              refine x_round (g + 1) _ rfl ⟨_, _, upds_eq ⟨rfl, rfl, rfl, rfl, rfl, rfl, trivial⟩, by first | omega | rfl | with_reducible assumption | (simp; done) | (simp; omega), by first | omega | rfl | with_reducible assumption | (simp; done) | (simp; omega), S⟩ (by omega)
          · refine s_exit (x_then_exit (x_then_exit (x_in_same (x_then (s_seq (s_plain ?_))))))
            refine p_does (d_call Try.func74 nm74 rfl rfl (l12awake _)) rfl ?_
            rintro _ w ⟨rfl, hB⟩
            have S := S.below hB
            refine p_val (e_assign (v := .bool _) rfl) rfl ?_
            refine p_nil (x_then (s_ret ?_))
            exact post1 (v := .bool _) Try.results17 rfl (⟨rfl, S.to_below⟩)
theorem rcpV_lenT {r : Rcp} (h : r.ok ∧ r.byt) : (rcpV r).length = 67 := rcpV_len h.1
theorem rsigns_calls (w0 : World) (s : List Nat) (n : Int) (A : Option Addr) (n0 c0 : Nat) (X : List Rcp) (q : Rcp) (hs : s.length = 32) (hq : q.ok) (hX : X.length = n0) (hY : ∀ x ∈ X, x.ok ∧ x.byt) (R : Rd w0 67 A n0 (X.flatMap rcpV)) :
     Ret Try.prog 17 [.agg (bv s).toArray, .int .i64 n, .slice A n0 c0, .agg (rcpV q).toArray] w0 fun v w' => v = .bool true ∧ Below w0.heap.size w0 w' := by
  by_cases h : n < 1 ∨ 3 < n ∨ 4 < n0
  · exact rsigns_out w0 s n A n0 c0 q hq h
  · obtain ⟨m, rfl⟩ := Int.eq_ofNat_of_zero_le (show 0 ≤ n by omega)
    exact rsigns_in w0 s m A n0 c0 X q hs hq (by omega) (by omega) hX (by omega) (fun x hx => (hY x hx).1) R
end Go.Proofs.Ytdhfiamgmokfbaa
