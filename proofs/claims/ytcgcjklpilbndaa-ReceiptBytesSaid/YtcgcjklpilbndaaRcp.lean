/- Receipts: their texts, and what is read of texts. It proves no statement by itself. -/
import Derived.Test.YtcgcjklpilbndaaEqs
import Derived.Test.YtcgcjklpilbndaaPen
import Derived.Test.YtcgcjklpilbndaaEye
set_option linter.unusedSimpArgs false
set_option linter.unusedVariables false
set_option maxRecDepth 100000
set_option maxHeartbeats 1000000
namespace Go.Proofs.Ytcgcjklpilbndaa
open Go Go.RowKit E
attribute [local irreducible] wpList seqH treeH
structure Rcp where
  (t c s : Int)
  (h b : List Nat)
def rcpC (r : Rcp) : List (List Value) := [[.int .i64 r.t], [.int .i64 r.c], [.int .i64 r.s], bv r.h, bv r.b]
def Rcp.ok (r : Rcp) : Prop := r.h.length = 32 ∧ r.b.length = 32
def Rcp.right (r : Rcp) : Prop := 0 ≤ r.t ∧ r.t < 16 ∧ 0 ≤ r.c ∧ r.c ≤ 1048576 ∧ 0 ≤ r.s ∧ r.s ≤ 1048576
instance (r : Rcp) : Decidable r.right := by unfold Rcp.right; infer_instance
def Rcp.zero : Rcp := ⟨0, 0, 0, zsum, zsum⟩
def rtext (r : Rcp) : List Nat := num r.t ++ num r.c ++ num r.s ++ r.h ++ r.b
theorem rtext_len {r : Rcp} (h : r.ok) : (rtext r).length ≤ 94 := by
  have h1 := num_len r.t
  have h2 := num_len r.c
  have h3 := num_len r.s
  have h4 := h.1
  have h5 := h.2
  unfold rtext
  simp only [List.length_append]; omega
def rRcp (l : List Nat) : Rcp × Int :=
  let a := rUpto 15 0 l
  let b := rUpto 1048576 a.2.1 a.2.2
  let c := rUpto 1048576 b.2.1 b.2.2
  let h := rSum c.2.1 c.2.2
  let g := rSum h.2.1 h.2.2
  if rDone g.2.1 g.2.2 = 0 then (⟨a.1, b.1, c.1, h.1, g.1⟩, 0) else (Rcp.zero, rDone g.2.1 g.2.2)
theorem rc_right (w0 : World) (r : Rcp) (hr : r.ok) :
    Ret Try.prog 22 [.agg (cat (rcpC r)).toArray] w0 fun v w' => v = .bool (decide r.right) ∧ Below w0.heap.size w0 w' := by
  refine enter Try.func22 rfl Try.ntmps22 (Nat.le_of_ble_eq_true rfl) ?_
  have S := St.init w0
  refine s_seq (s_plain ?_)
  refine p_does (d_boxA S rfl) rfl ?_
  rintro _ w ⟨b1, rfl, S⟩
  refine p_val (e_assign (v := .bool _) rfl) rfl ?_
  refine p_nil (x_then (s_seq ?_))
  refine s_cutK (ks := [some b1]) (ps := [Ex _ _]) [] trivial S (fun keep ks ps f' w' => ∃ u bb, f' = upds u ((2, .bool bb) :: keep) ∧ (bb = true ↔ (((((((0 : Int) ≤ r.t) ∧ (r.t < (16 : Int))) ∧ ((0 : Int) ≤ r.c)) ∧ (r.c ≤ (1048576 : Int))) ∧ ((0 : Int) ≤ r.s)) ∧ (r.s ≤ (1048576 : Int)))) ∧ St w0 w' [] ks ps) ?_ ?_
  · refine s_plain ?_
    refine p_val (e_field rfl Try.underlying46 rfl sz3 (by decide)) rfl ?_
    refine p_val (e_loadF1 (i := 0) (off := 0) rfl ag3 S (j := 0) rfl rfl rfl (by first | with_reducible assumption | (simp [cat, rcpC, hr.1, hr.2]; done) | (simp [cat, rcpC, hr.1, hr.2]; omega) | rfl)) rfl ?_
    refine p_valB (e_geq rfl rfl) rfl (fun hg5 => ?_) (fun hg5 => ?_)
    · refine p_val (e_move (v := .bool _) rfl) rfl ?_
      refine pg_val rfl rfl rfl rfl rfl (e_field rfl Try.underlying46 rfl sz3 (by decide)) ?_
      refine pg_val rfl rfl rfl rfl rfl (e_loadF1 (i := 0) (off := 0) rfl ag3 S (j := 0) rfl rfl rfl (by first | with_reducible assumption | (simp [cat, rcpC, hr.1, hr.2]; done) | (simp [cat, rcpC, hr.1, hr.2]; omega) | rfl)) ?_
      refine pg_valB rfl rfl rfl rfl rfl (e_lss rfl rfl) (fun hg9 => ?_) (fun hg9 => ?_)
      · refine p_val (e_pick_t rfl rfl) rfl ?_
        refine p_val (e_move (v := .bool _) rfl) rfl ?_
        refine pg_val rfl rfl rfl rfl rfl (e_field rfl Try.underlying46 rfl sz3 (by decide)) ?_
        refine pg_val rfl rfl rfl rfl rfl (e_loadF1 (i := 1) (off := 1) rfl ag3 S (j := 0) rfl rfl rfl (by first | with_reducible assumption | (simp [cat, rcpC, hr.1, hr.2]; done) | (simp [cat, rcpC, hr.1, hr.2]; omega) | rfl)) ?_
        refine pg_valB rfl rfl rfl rfl rfl (e_geq rfl rfl) (fun hg14 => ?_) (fun hg14 => ?_)
        · refine p_val (e_pick_t rfl rfl) rfl ?_
          refine p_val (e_move (v := .bool _) rfl) rfl ?_
          refine pg_val rfl rfl rfl rfl rfl (e_field rfl Try.underlying46 rfl sz3 (by decide)) ?_
          refine pg_val rfl rfl rfl rfl rfl (e_loadF1 (i := 1) (off := 1) rfl ag3 S (j := 0) rfl rfl rfl (by first | with_reducible assumption | (simp [cat, rcpC, hr.1, hr.2]; done) | (simp [cat, rcpC, hr.1, hr.2]; omega) | rfl)) ?_
          refine pg_valB rfl rfl rfl rfl rfl (e_leq rfl rfl) (fun hg19 => ?_) (fun hg19 => ?_)
          · refine p_val (e_pick_t rfl rfl) rfl ?_
            refine p_val (e_move (v := .bool _) rfl) rfl ?_
            refine pg_val rfl rfl rfl rfl rfl (e_field rfl Try.underlying46 rfl sz3 (by decide)) ?_
            refine pg_val rfl rfl rfl rfl rfl (e_loadF1 (i := 2) (off := 2) rfl ag3 S (j := 0) rfl rfl rfl (by first | with_reducible assumption | (simp [cat, rcpC, hr.1, hr.2]; done) | (simp [cat, rcpC, hr.1, hr.2]; omega) | rfl)) ?_
            refine pg_valB rfl rfl rfl rfl rfl (e_geq rfl rfl) (fun hg24 => ?_) (fun hg24 => ?_)
            · refine p_val (e_pick_t rfl rfl) rfl ?_
              refine p_val (e_move (v := .bool _) rfl) rfl ?_
              refine pg_val rfl rfl rfl rfl rfl (e_field rfl Try.underlying46 rfl sz3 (by decide)) ?_
              refine pg_val rfl rfl rfl rfl rfl (e_loadF1 (i := 2) (off := 2) rfl ag3 S (j := 0) rfl rfl rfl (by first | with_reducible assumption | (simp [cat, rcpC, hr.1, hr.2]; done) | (simp [cat, rcpC, hr.1, hr.2]; omega) | rfl)) ?_
              refine pg_val rfl rfl rfl rfl rfl (e_leq rfl rfl) ?_
              refine p_val (e_pick_t rfl rfl) rfl ?_
              refine p_val (e_assign (v := .bool _) rfl) rfl ?_
              exact p_nil (x_then ⟨_, rfl, _, _, upds_eq ⟨rfl, trivial⟩, by first | (simp only [decide_eq_true_eq, eq_self, true_iff, iff_true, iff_false, Bool.false_eq_true, false_iff, ge_iff_le, gt_iff_lt, true_and, and_true, false_and, and_false, true_or, or_true, false_or, or_false, not_true_eq_false, not_false_eq_true]; omega) | simp | omega | simp_all, S⟩)
            · refine p_val (e_pick_t rfl rfl) rfl ?_
              refine p_val (e_move (v := .bool _) rfl) rfl ?_
              refine p_no rfl rfl rfl rfl rfl ?_
              refine p_no rfl rfl rfl rfl rfl ?_
              refine p_no rfl rfl rfl rfl rfl ?_
              refine p_val (e_pick_f rfl rfl) rfl ?_
              refine p_val (e_assign (v := .bool _) rfl) rfl ?_
              exact p_nil (x_then ⟨_, rfl, _, _, upds_eq ⟨rfl, trivial⟩, by first | (simp only [decide_eq_true_eq, eq_self, true_iff, iff_true, iff_false, Bool.false_eq_true, false_iff, ge_iff_le, gt_iff_lt, true_and, and_true, false_and, and_false, true_or, or_true, false_or, or_false, not_true_eq_false, not_false_eq_true]; omega) | simp | omega | simp_all, S⟩)
          · refine p_val (e_pick_t rfl rfl) rfl ?_
            refine p_val (e_move (v := .bool _) rfl) rfl ?_
            refine p_no rfl rfl rfl rfl rfl ?_
            refine p_no rfl rfl rfl rfl rfl ?_
            refine p_no rfl rfl rfl rfl rfl ?_
            refine p_val (e_pick_f rfl rfl) rfl ?_
            refine p_val (e_move (v := .bool _) rfl) rfl ?_
            refine p_no rfl rfl rfl rfl rfl ?_
            refine p_no rfl rfl rfl rfl rfl ?_
            refine p_no rfl rfl rfl rfl rfl ?_
            refine p_val (e_pick_f rfl rfl) rfl ?_
            refine p_val (e_assign (v := .bool _) rfl) rfl ?_
            exact p_nil (x_then ⟨_, rfl, _, _, upds_eq ⟨rfl, trivial⟩, by first | (simp only [decide_eq_true_eq, eq_self, true_iff, iff_true, iff_false, Bool.false_eq_true, false_iff, ge_iff_le, gt_iff_lt, true_and, and_true, false_and, and_false, true_or, or_true, false_or, or_false, not_true_eq_false, not_false_eq_true]; omega) | simp | omega | simp_all, S⟩)
        · refine p_val (e_pick_t rfl rfl) rfl ?_
          refine p_val (e_move (v := .bool _) rfl) rfl ?_
          refine p_no rfl rfl rfl rfl rfl ?_
          refine p_no rfl rfl rfl rfl rfl ?_
          refine p_no rfl rfl rfl rfl rfl ?_
          refine p_val (e_pick_f rfl rfl) rfl ?_
          refine p_val (e_move (v := .bool _) rfl) rfl ?_
          refine p_no rfl rfl rfl rfl rfl ?_
          refine p_no rfl rfl rfl rfl rfl ?_
          refine p_no rfl rfl rfl rfl rfl ?_
          refine p_val (e_pick_f rfl rfl) rfl ?_
          refine p_val (e_move (v := .bool _) rfl) rfl ?_
          refine p_no rfl rfl rfl rfl rfl ?_
          refine p_no rfl rfl rfl rfl rfl ?_
          refine p_no rfl rfl rfl rfl rfl ?_
          refine p_val (e_pick_f rfl rfl) rfl ?_
          refine p_val (e_assign (v := .bool _) rfl) rfl ?_
          exact p_nil (x_then ⟨_, rfl, _, _, upds_eq ⟨rfl, trivial⟩, by first | (simp only [decide_eq_true_eq, eq_self, true_iff, iff_true, iff_false, Bool.false_eq_true, false_iff, ge_iff_le, gt_iff_lt, true_and, and_true, false_and, and_false, true_or, or_true, false_or, or_false, not_true_eq_false, not_false_eq_true]; omega) | simp | omega | simp_all, S⟩)
      · refine p_val (e_pick_t rfl rfl) rfl ?_
        refine p_val (e_move (v := .bool _) rfl) rfl ?_
        refine p_no rfl rfl rfl rfl rfl ?_
        refine p_no rfl rfl rfl rfl rfl ?_
        refine p_no rfl rfl rfl rfl rfl ?_
        refine p_val (e_pick_f rfl rfl) rfl ?_
        refine p_val (e_move (v := .bool _) rfl) rfl ?_
        refine p_no rfl rfl rfl rfl rfl ?_
        refine p_no rfl rfl rfl rfl rfl ?_
        refine p_no rfl rfl rfl rfl rfl ?_
        refine p_val (e_pick_f rfl rfl) rfl ?_
        refine p_val (e_move (v := .bool _) rfl) rfl ?_
        refine p_no rfl rfl rfl rfl rfl ?_
        refine p_no rfl rfl rfl rfl rfl ?_
        refine p_no rfl rfl rfl rfl rfl ?_
        refine p_val (e_pick_f rfl rfl) rfl ?_
        refine p_val (e_move (v := .bool _) rfl) rfl ?_
        refine p_no rfl rfl rfl rfl rfl ?_
        refine p_no rfl rfl rfl rfl rfl ?_
        refine p_no rfl rfl rfl rfl rfl ?_
        refine p_val (e_pick_f rfl rfl) rfl ?_
        refine p_val (e_assign (v := .bool _) rfl) rfl ?_
        exact p_nil (x_then ⟨_, rfl, _, _, upds_eq ⟨rfl, trivial⟩, by first | (simp only [decide_eq_true_eq, eq_self, true_iff, iff_true, iff_false, Bool.false_eq_true, false_iff, ge_iff_le, gt_iff_lt, true_and, and_true, false_and, and_false, true_or, or_true, false_or, or_false, not_true_eq_false, not_false_eq_true]; omega) | simp | omega | simp_all, S⟩)
    · refine p_val (e_move (v := .bool _) rfl) rfl ?_
      refine p_no rfl rfl rfl rfl rfl ?_
      refine p_no rfl rfl rfl rfl rfl ?_
      refine p_no rfl rfl rfl rfl rfl ?_
      refine p_val (e_pick_f rfl rfl) rfl ?_
      refine p_val (e_move (v := .bool _) rfl) rfl ?_
      refine p_no rfl rfl rfl rfl rfl ?_
      refine p_no rfl rfl rfl rfl rfl ?_
      refine p_no rfl rfl rfl rfl rfl ?_
      refine p_val (e_pick_f rfl rfl) rfl ?_
      refine p_val (e_move (v := .bool _) rfl) rfl ?_
      refine p_no rfl rfl rfl rfl rfl ?_
      refine p_no rfl rfl rfl rfl rfl ?_
      refine p_no rfl rfl rfl rfl rfl ?_
      refine p_val (e_pick_f rfl rfl) rfl ?_
      refine p_val (e_move (v := .bool _) rfl) rfl ?_
      refine p_no rfl rfl rfl rfl rfl ?_
      refine p_no rfl rfl rfl rfl rfl ?_
      refine p_no rfl rfl rfl rfl rfl ?_
      refine p_val (e_pick_f rfl rfl) rfl ?_
      refine p_val (e_move (v := .bool _) rfl) rfl ?_
      refine p_no rfl rfl rfl rfl rfl ?_
      refine p_no rfl rfl rfl rfl rfl ?_
      refine p_no rfl rfl rfl rfl rfl ?_
      refine p_val (e_pick_f rfl rfl) rfl ?_
      refine p_val (e_assign (v := .bool _) rfl) rfl ?_
      exact p_nil (x_then ⟨_, rfl, _, _, upds_eq ⟨rfl, trivial⟩, by first | (simp only [decide_eq_true_eq, eq_self, true_iff, iff_true, iff_false, Bool.false_eq_true, false_iff, ge_iff_le, gt_iff_lt, true_and, and_true, false_and, and_false, true_or, or_true, false_or, or_false, not_true_eq_false, not_false_eq_true]; omega) | simp | omega | simp_all, S⟩)
  · rintro f w ⟨u, b2, rfl, hb2, S⟩
    refine x_then (s_ret ?_)
    exact post1 (v := .bool _) Try.results22 rfl (⟨by congr 1; exact Bool.eq_iff_iff.2 (hb2.trans (Iff.trans (by unfold Rcp.right; omega) decide_eq_true_iff.symm)), S.to_below⟩)
theorem rc_text (w0 : World) (r : Rcp) (hr : r.ok) :
    Ret Try.prog 21 [.agg (cat (rcpC r)).toArray] w0 fun v w' => ∃ k c, v = .slice (at_ k) (rtext r).length c ∧ St w0 w' [] [k] [Rw 5 1 (rtext r).length c (bv (rtext r))] := by
  refine enter Try.func21 rfl Try.ntmps21 (Nat.le_of_ble_eq_true rfl) ?_
  have S := St.init w0
  have hn : (nums [r.t, r.c, r.s]).length ≤ 30 := nums_len _
  refine s_seq (s_plain ?_)
  refine p_does (d_boxA S rfl) rfl ?_
  rintro _ w ⟨b1, rfl, S⟩
  refine p_val (e_assign (v := .slice _ _ _) rfl) rfl ?_
  refine p_nil (x_then (s_seq (s_plain ?_)))
  refine p_does (d_allocA S zs56) rfl ?_
  rintro _ w ⟨b3, rfl, S⟩
  have S := pen_new S
  refine p_nil (x_then (s_seq ?_))
  refine s_drawK (ks := [some b1]) (ps := [Ex _ _]) (S.pk [2] rfl) [(true, 0), (true, 1), (true, 2), (true, 3), (true, 4), (true, 5), (true, 8), (true, 9), (true, 11), (true, 12), (false, 6), (false, 7), (false, 10), (false, 13), (false, 14)] [15] [15] mixed (by kernel_rfl) (by repeat (first | exact Calm.post _ _ _ | refine Calm.then ?_ _ | refine Calm.inB ?_ _)) (fun hS => ?_)
  have S := S.drew
  refine q_val (fun w hS => e_field rfl Try.underlying46 rfl sz3 (by decide)) rfl hS ?_
  refine q_val (fun w hS => e_loadF1 (i := 0) (off := 0) rfl ag3 hS (j := 0) rfl rfl rfl (by first | with_reducible assumption | (simp [cat, rcpC, hr.1, hr.2]; done) | (simp [cat, rcpC, hr.1, hr.2]; omega) | rfl)) rfl hS ?_
  refine q_val (fun w hS => e_field rfl Try.underlying46 rfl sz3 (by decide)) rfl hS ?_
  refine q_val (fun w hS => e_loadF1 (i := 1) (off := 1) rfl ag3 hS (j := 0) rfl rfl rfl (by first | with_reducible assumption | (simp [cat, rcpC, hr.1, hr.2]; done) | (simp [cat, rcpC, hr.1, hr.2]; omega) | rfl)) rfl hS ?_
  refine q_val (fun w hS => e_field rfl Try.underlying46 rfl sz3 (by decide)) rfl hS ?_
  refine q_val (fun w hS => e_loadF1 (i := 2) (off := 2) rfl ag3 hS (j := 0) rfl rfl rfl (by first | with_reducible assumption | (simp [cat, rcpC, hr.1, hr.2]; done) | (simp [cat, rcpC, hr.1, hr.2]; omega) | rfl)) rfl hS ?_
  refine q_val (fun w hS => e_field rfl Try.underlying46 rfl sz44 (by decide)) rfl hS ?_
  refine q_val (fun w hS => e_loadFA (i := 3) (off := 3) rfl ag44 sz44 (by decide) hS (j := 0) rfl rfl rfl (by first | with_reducible assumption | (simp [cat, rcpC, hr.1, hr.2]; done) | (simp [cat, rcpC, hr.1, hr.2]; omega) | rfl) (by first | with_reducible assumption | (simp [cat, rcpC, hr.1, hr.2]; done) | (simp [cat, rcpC, hr.1, hr.2]; omega) | rfl)) rfl hS ?_
  refine q_val (fun w hS => e_field rfl Try.underlying46 rfl sz44 (by decide)) rfl hS ?_
  refine q_val (fun w hS => e_loadFA (i := 4) (off := 35) rfl ag44 sz44 (by decide) hS (j := 0) rfl rfl rfl (by first | with_reducible assumption | (simp [cat, rcpC, hr.1, hr.2]; done) | (simp [cat, rcpC, hr.1, hr.2]; omega) | rfl) (by first | with_reducible assumption | (simp [cat, rcpC, hr.1, hr.2]; done) | (simp [cat, rcpC, hr.1, hr.2]; omega) | rfl)) rfl hS ?_
  refine q_does (d_litI S Try.underlying31 sz3 zv3 rfl (l := [_, _, _]) rfl rfl (by decide)) rfl ?_
  rintro _ w ⟨b10, rfl, S⟩
  have hS := S.pk [3] rfl
  refine ⟨hS, ?_⟩
  refine q_does (d_call Try.func58 nm58 rfl rfl (pen_nums _ _ _ _ _ _ _ _ _ (S.hr [1, 2] rfl) (S.rdRw 0 rfl rfl) (S.offRow 0 [1, 2] rfl rfl) (by first | omega | (simp only [List.length_append, List.length_cons, List.length_nil, bv_length, rcpC, hr.1, hr.2]; omega) | (simp [cat, rcpC, hr.1, hr.2]; omega)) (by decide))) rfl ?_
  rintro _ w ⟨rfl, k11, c11, T⟩
  have S := (S.call [1, 2] T rfl).pk [2, 0, 1, 5] rfl
  have hS := S.pk [3] rfl
  refine ⟨hS, ?_⟩
  refine q_does (d_call Try.func57 nm57 rfl rfl (pen_sum _ _ _ _ _ _ (S.hr [1, 2] rfl) (by first | with_reducible assumption | (simp [cat, rcpC, hr.1, hr.2]; done) | (simp [cat, rcpC, hr.1, hr.2]; omega) | rfl) (by first | omega | (simp only [List.length_append, List.length_cons, List.length_nil, bv_length, rcpC, hr.1, hr.2]; omega) | (simp [cat, rcpC, hr.1, hr.2]; omega)))) rfl ?_
  rintro _ w ⟨rfl, k14, c14, T⟩
  have S := (S.call [1, 2] T rfl).pk [2, 0, 1, 5] rfl
  have hS := S.pk [3] rfl
  refine ⟨hS, ?_⟩
  refine q_does (d_call Try.func57 nm57 rfl rfl (pen_sum _ _ _ _ _ _ (S.hr [1, 2] rfl) (by first | with_reducible assumption | (simp [cat, rcpC, hr.1, hr.2]; done) | (simp [cat, rcpC, hr.1, hr.2]; omega) | rfl) (by first | omega | (simp only [List.length_append, List.length_cons, List.length_nil, bv_length, rcpC, hr.1, hr.2]; omega) | (simp [cat, rcpC, hr.1, hr.2]; omega)))) rfl ?_
  rintro _ w ⟨rfl, k17, c17, T⟩
  have S := (S.call [1, 2] T rfl).pk [2, 0, 1, 5] rfl
  have hS := S.pk [3] rfl
  refine ⟨hS, ?_⟩
  refine q_does (d_call Try.func26 nm26 rfl rfl (pen_bytes _ _ _ _ _ (S.exact_ 1 rfl rfl) (S.rdRw 2 rfl rfl) (by first | omega | (simp only [List.length_append, List.length_cons, List.length_nil, bv_length, rcpC, hr.1, hr.2]; omega) | (simp [cat, rcpC, hr.1, hr.2]; omega)))) rfl ?_
  rintro _ w ⟨k18, c18, rfl, T⟩
  have S := S.merge T rfl
  have hS := S.pk [4] rfl
  refine ⟨hS, ?_⟩
  refine q_nil ?_
  refine p_val (e_assign (v := .slice _ _ _) rfl) rfl ?_
  refine p_nil (x_then (s_ret ?_))
  exact post1 (v := .slice _ _ _) Try.results21 rfl (by have e : [] ++ nums [r.t, r.c, r.s] ++ r.h ++ r.b = rtext r := by { simp [nums, rtext] }; rw [← e]; exact ⟨_, _, rfl, S.pk [0] rfl⟩)
theorem rc_read (w0 : World) (A : Option Addr) (c : Nat) (l : List Nat) (R : Rd w0 1 A l.length (bv l)) (bR : Bytes l) (cR : l.length ≤ c) (nR : l.length ≤ 1099511000000) :
    Ret Try.prog 19 [.slice A l.length c] w0 fun v w' => v = .tuple #[.agg (cat (rcpC (rRcp l).1)).toArray, .int .i64 (rRcp l).2] ∧ Below w0.heap.size w0 w' := by
  refine enter Try.func19 rfl Try.ntmps19 (Nat.le_of_ble_eq_true rfl) ?_
  have S := St.init w0
  refine s_seq (s_plain ?_)
  refine p_does (d_allocA S zs46) rfl ?_
  rintro _ w ⟨b2, rfl, S⟩
  refine p_val (e_assign (v := .int _ _) rfl) rfl ?_
  refine p_nil (x_then (s_seq (s_plain ?_)))
  refine p_val (e_move (v := .slice _ _ _) rfl) rfl ?_
  refine p_does (d_call Try.func52 nm52 rfl rfl (eye_look _ _ _ _)) rfl ?_
  rintro _ w ⟨b8, rfl, T⟩
  have S := S.merge T rfl
  refine p_val (e_assign (v := .pointer _) rfl) rfl ?_
  refine p_nil (x_then (s_seq (s_plain ?_)))
  refine p_val (e_move (v := .pointer _) rfl) rfl ?_
  refine p_does (d_call Try.func53 nm53 rfl rfl (eye_upto _ _ _ _ _ _ _ (S.hr [0] rfl) (S.rdOld R rfl) (S.offOld [0] R (by decide) Off.nil rfl) bR cR nR)) rfl ?_
  rintro _ w ⟨a10, e10, l10, A10, c10, q10, rfl, t10, T⟩
  have S := (S.call [0] T rfl).pk [0, 2] rfl
  have R10 := t10.rd _ R
  have bR10 := t10.by_ bR
  have cR10 := t10.cap
  have nR10 := t10.len nR
  refine p_val (e_move (v := .pointer _) rfl) rfl ?_
  refine p_does (d_call Try.func53 nm53 rfl rfl (eye_upto _ _ _ _ _ _ _ (S.hr [0] rfl) (S.rdOld R10 rfl) (S.offOld [0] R10 (by decide) Off.nil rfl) bR10 cR10 nR10)) rfl ?_
  rintro _ w ⟨a12, e12, l12, A12, c12, q12, rfl, t12, T⟩
  have S := (S.call [0] T rfl).pk [0, 2] rfl
  have R12 := t12.rd _ R10
  have bR12 := t12.by_ bR10
  have cR12 := t12.cap
  have nR12 := t12.len nR10
  refine p_val (e_move (v := .pointer _) rfl) rfl ?_
  refine p_does (d_call Try.func53 nm53 rfl rfl (eye_upto _ _ _ _ _ _ _ (S.hr [0] rfl) (S.rdOld R12 rfl) (S.offOld [0] R12 (by decide) Off.nil rfl) bR12 cR12 nR12)) rfl ?_
  rintro _ w ⟨a14, e14, l14, A14, c14, q14, rfl, t14, T⟩
  have S := (S.call [0] T rfl).pk [0, 2] rfl
  have R14 := t14.rd _ R12
  have bR14 := t14.by_ bR12
  have cR14 := t14.cap
  have nR14 := t14.len nR12
  refine p_val (e_buildS bt46 (Eq.trans (fill_cat (v := .int _ _) (l' := [[_]]) 0 1 rfl (rfl) (by first | with_reducible assumption | (simp [cat, length_zsum, rcpC, zc46]; done) | (simp [cat, length_zsum, rcpC, zc46]; omega) | rfl) (by first | with_reducible assumption | (simp [cat, length_zsum, rcpC, zc46]; done) | (simp [cat, length_zsum, rcpC, zc46]; omega) | rfl) (by first | with_reducible assumption | (simp [cat, length_zsum, rcpC, zc46]; done) | (simp [cat, length_zsum, rcpC, zc46]; omega) | rfl)) (Eq.trans (fill_cat (v := .int _ _) (l' := [[_]]) 1 1 rfl (rfl) (by first | with_reducible assumption | (simp [cat, length_zsum, rcpC, zc46]; done) | (simp [cat, length_zsum, rcpC, zc46]; omega) | rfl) (by first | with_reducible assumption | (simp [cat, length_zsum, rcpC, zc46]; done) | (simp [cat, length_zsum, rcpC, zc46]; omega) | rfl) (by first | with_reducible assumption | (simp [cat, length_zsum, rcpC, zc46]; done) | (simp [cat, length_zsum, rcpC, zc46]; omega) | rfl)) (Eq.trans (fill_cat (v := .int _ _) (l' := [[_]]) 2 1 rfl (rfl) (by first | with_reducible assumption | (simp [cat, length_zsum, rcpC, zc46]; done) | (simp [cat, length_zsum, rcpC, zc46]; omega) | rfl) (by first | with_reducible assumption | (simp [cat, length_zsum, rcpC, zc46]; done) | (simp [cat, length_zsum, rcpC, zc46]; omega) | rfl) (by first | with_reducible assumption | (simp [cat, length_zsum, rcpC, zc46]; done) | (simp [cat, length_zsum, rcpC, zc46]; omega) | rfl)) rfl)))) rfl ?_
  refine p_does (d_allocA S zs46) rfl ?_
  rintro _ w ⟨b5, rfl, S⟩
  refine p_does (d_storeW S 0 rfl rfl (by first | exact bv_one _ | exact sv_one _ | exact iv_one _ | with_reducible assumption | (refine One.mem ?_; repeat (first | exact One.bv _ | exact One.sv _ | exact One.iv _ | exact One.nil | exact One.cat0 | refine One.cat1 ?_ ?_ | refine One.cons rfl ?_ | refine One.append ?_ ?_))) sz46 (by first | with_reducible assumption | (simp [cat, length_zsum, rcpC, zc46]; done) | (simp [cat, length_zsum, rcpC, zc46]; omega) | rfl) rfl rfl (by first | with_reducible assumption | (simp [cat, length_zsum, rcpC, zc46]; done) | (simp [cat, length_zsum, rcpC, zc46]; omega) | rfl)) rfl ?_
  intro _ w S
  refine p_nil (x_then (s_seq (s_plain ?_)))
  refine p_val (e_move (v := .pointer _) rfl) rfl ?_
  refine p_does (d_call Try.func54 nm54 rfl rfl (eye_sum _ _ _ _ _ _ (S.hr [1] rfl) (S.rdOld R14 rfl) (S.offOld [1] R14 (by decide) Off.nil rfl) bR14 cR14 nR14)) rfl ?_
  rintro _ w ⟨s17, e17, l17, A17, c17, q17, hs17, rfl, t17, T⟩
  have S := (S.call [1] T rfl).pk [1, 0, 3] rfl
  have R17 := t17.rd _ R14
  have bR17 := t17.by_ bR14
  have cR17 := t17.cap
  have nR17 := t17.len nR14
  refine p_val (e_move (v := .pointer _) rfl) rfl ?_
  refine p_does (d_call Try.func54 nm54 rfl rfl (eye_sum _ _ _ _ _ _ (S.hr [1] rfl) (S.rdOld R17 rfl) (S.offOld [1] R17 (by decide) Off.nil rfl) bR17 cR17 nR17)) rfl ?_
  rintro _ w ⟨s19, e19, l19, A19, c19, q19, hs19, rfl, t19, T⟩
  have S := (S.call [1] T rfl).pk [1, 0, 3] rfl
  have R19 := t19.rd _ R17
  have bR19 := t19.by_ bR17
  have cR19 := t19.cap
  have nR19 := t19.len nR17
  refine p_val (e_field rfl Try.underlying46 rfl sz44 (by decide)) rfl ?_
  refine p_does (d_storeFA (off := 3) S 0 3 rfl rfl (by first | exact bv_one _ | exact sv_one _ | exact iv_one _ | with_reducible assumption | (refine One.mem ?_; repeat (first | exact One.bv _ | exact One.sv _ | exact One.iv _ | exact One.nil | exact One.cat0 | refine One.cat1 ?_ ?_ | refine One.cons rfl ?_ | refine One.append ?_ ?_))) sz44 (by simp [hs17]) rfl rfl rfl (by first | with_reducible assumption | (simp [cat, length_zsum, rcpC, zc46]; done) | (simp [cat, length_zsum, rcpC, zc46]; omega) | rfl) (by first | with_reducible assumption | (simp [cat, length_zsum, rcpC, zc46]; done) | (simp [cat, length_zsum, rcpC, zc46]; omega) | rfl)) rfl ?_
  intro _ w S
  refine p_val (e_field rfl Try.underlying46 rfl sz44 (by decide)) rfl ?_
  refine p_does (d_storeFA (off := 35) S 0 4 rfl rfl (by first | exact bv_one _ | exact sv_one _ | exact iv_one _ | with_reducible assumption | (refine One.mem ?_; repeat (first | exact One.bv _ | exact One.sv _ | exact One.iv _ | exact One.nil | exact One.cat0 | refine One.cat1 ?_ ?_ | refine One.cons rfl ?_ | refine One.append ?_ ?_))) sz44 (by simp [hs19]) rfl rfl rfl (by first | with_reducible assumption | (simp [cat, length_zsum, rcpC, zc46]; done) | (simp [cat, length_zsum, rcpC, zc46]; omega) | rfl) (by simp [cat, zc46, hs17, hs19])) rfl ?_
  intro _ w S
  refine p_nil (x_then (s_seq (s_seq (s_plain ?_))))
  refine p_val (e_move (v := .pointer _) rfl) rfl ?_
  refine p_does (d_call Try.func55 nm55 rfl rfl (eye_done _ _ _ _ _ _ (S.hr [1] rfl))) rfl ?_
  rintro _ w ⟨rfl, T⟩
  have S := (S.call [1] T rfl).pk [1, 0, 3] rfl
  refine p_val (e_assign (v := .int _ _) rfl) rfl ?_
  refine p_nil (x_then (s_seq (s_plain ?_)))
  refine p_val (e_move (v := .int _ _) rfl) rfl ?_
  refine p_val (e_neq rfl rfl) rfl ?_
  refine p_nil (x_then ?_)
  refine s_cond rfl (fun hc25 => ?_) (fun hc25 => ?_)
  · have e0 : rRcp l = (Rcp.zero, rDone e19 l19) := by simp only [rRcp, q10, q12, q14, q17, q19, if_neg hc25]
    refine s_seq (s_plain ?_)
    refine p_val (e_buildS0 bt46) rfl ?_
    refine p_val (e_move (v := .int _ _) rfl) rfl ?_
    refine p_does (d_storeW S 2 rfl rfl (by first | exact bv_one _ | exact sv_one _ | exact iv_one _ | with_reducible assumption | (refine One.mem ?_; repeat (first | exact One.bv _ | exact One.sv _ | exact One.iv _ | exact One.nil | exact One.cat0 | refine One.cat1 ?_ ?_ | refine One.cons rfl ?_ | refine One.append ?_ ?_))) sz46 (by first | with_reducible assumption | (simp [cat, length_zsum, rcpC, zc46]; done) | (simp [cat, length_zsum, rcpC, zc46]; omega) | rfl) rfl rfl (by first | with_reducible assumption | (simp [cat, length_zsum, rcpC, zc46]; done) | (simp [cat, length_zsum, rcpC, zc46]; omega) | rfl)) rfl ?_
    intro _ w S
    refine p_val (e_assign (v := .int _ _) rfl) rfl ?_
    refine p_nil (x_then (s_ret (x_then_ret ?_)))
    exact postC1 (v := .int _ _) Try.results19 S 2 rfl rfl rfl rfl ag46 sz46 (by first | with_reducible assumption | (simp [cat, length_zsum, rcpC, zc46]; done) | (simp [cat, length_zsum, rcpC, zc46]; omega) | rfl) (⟨by rw [e0]; rfl, S.to_below⟩)
  · have e0 : rRcp l = (⟨a10, a12, a14, s17, s19⟩, 0) := by simp only [rRcp, q10, q12, q14, q17, q19, if_pos (Classical.not_not.1 hc25)]
    refine s_skip (x_then (s_seq (s_plain ?_)))
    refine p_val (e_loadW 0 rfl ag46 sz46 S rfl rfl (by simp [cat, zc46, hs17, hs19])) rfl ?_
    refine p_does (d_storeW S 2 rfl rfl (by first | exact bv_one _ | exact sv_one _ | exact iv_one _ | with_reducible assumption | (refine One.mem ?_; repeat (first | exact One.bv _ | exact One.sv _ | exact One.iv _ | exact One.nil | exact One.cat0 | refine One.cat1 ?_ ?_ | refine One.cons rfl ?_ | refine One.append ?_ ?_))) sz46 (by simp [cat, zc46, hs17, hs19]) rfl rfl (by first | with_reducible assumption | (simp [cat, length_zsum, rcpC, zc46]; done) | (simp [cat, length_zsum, rcpC, zc46]; omega) | rfl)) rfl ?_
    intro _ w S
    refine p_val (e_assign (v := .int _ _) rfl) rfl ?_
    refine p_nil (x_then (s_ret ?_))
    exact postC1 (v := .int _ _) Try.results19 S 2 rfl rfl rfl rfl ag46 sz46 (by simp [cat, zc46, hs17, hs19]) (⟨by rw [e0]; rfl, S.to_below⟩)
theorem l12right (w0 : World) (r : Rcp) (hr : r.ok) :
    Ret Try.prog 23 [.agg (cat (rcpC r)).toArray] w0 fun v w' => v = .bool (decide r.right) ∧ Below w0.heap.size w0 w' := by
  refine enter Try.func23 rfl Try.ntmps23 (Nat.le_of_ble_eq_true rfl) ?_
  have S := St.init w0
  refine s_seq (s_plain ?_)
  refine p_does (d_boxA S rfl) rfl ?_
  rintro _ w ⟨b1, rfl, S⟩
  refine p_val (e_assign (v := .bool _) rfl) rfl ?_
  refine p_nil (x_then (s_seq ?_))
  refine s_cutK (ks := [some b1]) (ps := [Ex _ _]) [] trivial S (fun keep ks ps f' w' => ∃ u bb, f' = upds u ((2, .bool bb) :: keep) ∧ (bb = true ↔ (((((((0 : Int) ≤ r.t) ∧ (r.t < (16 : Int))) ∧ ((0 : Int) ≤ r.c)) ∧ (r.c ≤ (1048576 : Int))) ∧ ((0 : Int) ≤ r.s)) ∧ (r.s ≤ (1048576 : Int)))) ∧ St w0 w' [] ks ps) ?_ ?_
  · refine s_plain ?_
    refine p_val (e_field rfl Try.underlying46 rfl sz3 (by decide)) rfl ?_
    refine p_val (e_loadF1 (i := 0) (off := 0) rfl ag3 S (j := 0) rfl rfl rfl (by first | with_reducible assumption | (simp [cat, rcpC, hr.1, hr.2]; done) | (simp [cat, rcpC, hr.1, hr.2]; omega) | rfl)) rfl ?_
    refine p_valB (e_geq rfl rfl) rfl (fun hg5 => ?_) (fun hg5 => ?_)
    · refine p_val (e_move (v := .bool _) rfl) rfl ?_
      refine pg_val rfl rfl rfl rfl rfl (e_field rfl Try.underlying46 rfl sz3 (by decide)) ?_
      refine pg_val rfl rfl rfl rfl rfl (e_loadF1 (i := 0) (off := 0) rfl ag3 S (j := 0) rfl rfl rfl (by first | with_reducible assumption | (simp [cat, rcpC, hr.1, hr.2]; done) | (simp [cat, rcpC, hr.1, hr.2]; omega) | rfl)) ?_
      refine pg_valB rfl rfl rfl rfl rfl (e_lss rfl rfl) (fun hg9 => ?_) (fun hg9 => ?_)
      · refine p_val (e_pick_t rfl rfl) rfl ?_
        refine p_val (e_move (v := .bool _) rfl) rfl ?_
        refine pg_val rfl rfl rfl rfl rfl (e_field rfl Try.underlying46 rfl sz3 (by decide)) ?_
        refine pg_val rfl rfl rfl rfl rfl (e_loadF1 (i := 1) (off := 1) rfl ag3 S (j := 0) rfl rfl rfl (by first | with_reducible assumption | (simp [cat, rcpC, hr.1, hr.2]; done) | (simp [cat, rcpC, hr.1, hr.2]; omega) | rfl)) ?_
        refine pg_valB rfl rfl rfl rfl rfl (e_geq rfl rfl) (fun hg14 => ?_) (fun hg14 => ?_)
        · refine p_val (e_pick_t rfl rfl) rfl ?_
          refine p_val (e_move (v := .bool _) rfl) rfl ?_
          refine pg_val rfl rfl rfl rfl rfl (e_field rfl Try.underlying46 rfl sz3 (by decide)) ?_
          refine pg_val rfl rfl rfl rfl rfl (e_loadF1 (i := 1) (off := 1) rfl ag3 S (j := 0) rfl rfl rfl (by first | with_reducible assumption | (simp [cat, rcpC, hr.1, hr.2]; done) | (simp [cat, rcpC, hr.1, hr.2]; omega) | rfl)) ?_
          refine pg_valB rfl rfl rfl rfl rfl (e_leq rfl rfl) (fun hg19 => ?_) (fun hg19 => ?_)
          · refine p_val (e_pick_t rfl rfl) rfl ?_
            refine p_val (e_move (v := .bool _) rfl) rfl ?_
            refine pg_val rfl rfl rfl rfl rfl (e_field rfl Try.underlying46 rfl sz3 (by decide)) ?_
            refine pg_val rfl rfl rfl rfl rfl (e_loadF1 (i := 2) (off := 2) rfl ag3 S (j := 0) rfl rfl rfl (by first | with_reducible assumption | (simp [cat, rcpC, hr.1, hr.2]; done) | (simp [cat, rcpC, hr.1, hr.2]; omega) | rfl)) ?_
            refine pg_valB rfl rfl rfl rfl rfl (e_geq rfl rfl) (fun hg24 => ?_) (fun hg24 => ?_)
            · refine p_val (e_pick_t rfl rfl) rfl ?_
              refine p_val (e_move (v := .bool _) rfl) rfl ?_
              refine pg_val rfl rfl rfl rfl rfl (e_field rfl Try.underlying46 rfl sz3 (by decide)) ?_
              refine pg_val rfl rfl rfl rfl rfl (e_loadF1 (i := 2) (off := 2) rfl ag3 S (j := 0) rfl rfl rfl (by first | with_reducible assumption | (simp [cat, rcpC, hr.1, hr.2]; done) | (simp [cat, rcpC, hr.1, hr.2]; omega) | rfl)) ?_
              refine pg_val rfl rfl rfl rfl rfl (e_leq rfl rfl) ?_
              refine p_val (e_pick_t rfl rfl) rfl ?_
              refine p_val (e_assign (v := .bool _) rfl) rfl ?_
              exact p_nil (x_then ⟨_, rfl, _, _, upds_eq ⟨rfl, trivial⟩, by first | (simp only [decide_eq_true_eq, eq_self, true_iff, iff_true, iff_false, Bool.false_eq_true, false_iff, ge_iff_le, gt_iff_lt, true_and, and_true, false_and, and_false, true_or, or_true, false_or, or_false, not_true_eq_false, not_false_eq_true]; omega) | simp | omega | simp_all, S⟩)
            · refine p_val (e_pick_t rfl rfl) rfl ?_
              refine p_val (e_move (v := .bool _) rfl) rfl ?_
              refine p_no rfl rfl rfl rfl rfl ?_
              refine p_no rfl rfl rfl rfl rfl ?_
              refine p_no rfl rfl rfl rfl rfl ?_
              refine p_val (e_pick_f rfl rfl) rfl ?_
              refine p_val (e_assign (v := .bool _) rfl) rfl ?_
              exact p_nil (x_then ⟨_, rfl, _, _, upds_eq ⟨rfl, trivial⟩, by first | (simp only [decide_eq_true_eq, eq_self, true_iff, iff_true, iff_false, Bool.false_eq_true, false_iff, ge_iff_le, gt_iff_lt, true_and, and_true, false_and, and_false, true_or, or_true, false_or, or_false, not_true_eq_false, not_false_eq_true]; omega) | simp | omega | simp_all, S⟩)
          · refine p_val (e_pick_t rfl rfl) rfl ?_
            refine p_val (e_move (v := .bool _) rfl) rfl ?_
            refine p_no rfl rfl rfl rfl rfl ?_
            refine p_no rfl rfl rfl rfl rfl ?_
            refine p_no rfl rfl rfl rfl rfl ?_
            refine p_val (e_pick_f rfl rfl) rfl ?_
            refine p_val (e_move (v := .bool _) rfl) rfl ?_
            refine p_no rfl rfl rfl rfl rfl ?_
            refine p_no rfl rfl rfl rfl rfl ?_
            refine p_no rfl rfl rfl rfl rfl ?_
            refine p_val (e_pick_f rfl rfl) rfl ?_
            refine p_val (e_assign (v := .bool _) rfl) rfl ?_
            exact p_nil (x_then ⟨_, rfl, _, _, upds_eq ⟨rfl, trivial⟩, by first | (simp only [decide_eq_true_eq, eq_self, true_iff, iff_true, iff_false, Bool.false_eq_true, false_iff, ge_iff_le, gt_iff_lt, true_and, and_true, false_and, and_false, true_or, or_true, false_or, or_false, not_true_eq_false, not_false_eq_true]; omega) | simp | omega | simp_all, S⟩)
        · refine p_val (e_pick_t rfl rfl) rfl ?_
          refine p_val (e_move (v := .bool _) rfl) rfl ?_
          refine p_no rfl rfl rfl rfl rfl ?_
          refine p_no rfl rfl rfl rfl rfl ?_
          refine p_no rfl rfl rfl rfl rfl ?_
          refine p_val (e_pick_f rfl rfl) rfl ?_
          refine p_val (e_move (v := .bool _) rfl) rfl ?_
          refine p_no rfl rfl rfl rfl rfl ?_
          refine p_no rfl rfl rfl rfl rfl ?_
          refine p_no rfl rfl rfl rfl rfl ?_
          refine p_val (e_pick_f rfl rfl) rfl ?_
          refine p_val (e_move (v := .bool _) rfl) rfl ?_
          refine p_no rfl rfl rfl rfl rfl ?_
          refine p_no rfl rfl rfl rfl rfl ?_
          refine p_no rfl rfl rfl rfl rfl ?_
          refine p_val (e_pick_f rfl rfl) rfl ?_
          refine p_val (e_assign (v := .bool _) rfl) rfl ?_
          exact p_nil (x_then ⟨_, rfl, _, _, upds_eq ⟨rfl, trivial⟩, by first | (simp only [decide_eq_true_eq, eq_self, true_iff, iff_true, iff_false, Bool.false_eq_true, false_iff, ge_iff_le, gt_iff_lt, true_and, and_true, false_and, and_false, true_or, or_true, false_or, or_false, not_true_eq_false, not_false_eq_true]; omega) | simp | omega | simp_all, S⟩)
      · refine p_val (e_pick_t rfl rfl) rfl ?_
        refine p_val (e_move (v := .bool _) rfl) rfl ?_
        refine p_no rfl rfl rfl rfl rfl ?_
        refine p_no rfl rfl rfl rfl rfl ?_
        refine p_no rfl rfl rfl rfl rfl ?_
        refine p_val (e_pick_f rfl rfl) rfl ?_
        refine p_val (e_move (v := .bool _) rfl) rfl ?_
        refine p_no rfl rfl rfl rfl rfl ?_
        refine p_no rfl rfl rfl rfl rfl ?_
        refine p_no rfl rfl rfl rfl rfl ?_
        refine p_val (e_pick_f rfl rfl) rfl ?_
        refine p_val (e_move (v := .bool _) rfl) rfl ?_
        refine p_no rfl rfl rfl rfl rfl ?_
        refine p_no rfl rfl rfl rfl rfl ?_
        refine p_no rfl rfl rfl rfl rfl ?_
        refine p_val (e_pick_f rfl rfl) rfl ?_
        refine p_val (e_move (v := .bool _) rfl) rfl ?_
        refine p_no rfl rfl rfl rfl rfl ?_
        refine p_no rfl rfl rfl rfl rfl ?_
        refine p_no rfl rfl rfl rfl rfl ?_
        refine p_val (e_pick_f rfl rfl) rfl ?_
        refine p_val (e_assign (v := .bool _) rfl) rfl ?_
        exact p_nil (x_then ⟨_, rfl, _, _, upds_eq ⟨rfl, trivial⟩, by first | (simp only [decide_eq_true_eq, eq_self, true_iff, iff_true, iff_false, Bool.false_eq_true, false_iff, ge_iff_le, gt_iff_lt, true_and, and_true, false_and, and_false, true_or, or_true, false_or, or_false, not_true_eq_false, not_false_eq_true]; omega) | simp | omega | simp_all, S⟩)
    · refine p_val (e_move (v := .bool _) rfl) rfl ?_
      refine p_no rfl rfl rfl rfl rfl ?_
      refine p_no rfl rfl rfl rfl rfl ?_
      refine p_no rfl rfl rfl rfl rfl ?_
      refine p_val (e_pick_f rfl rfl) rfl ?_
      refine p_val (e_move (v := .bool _) rfl) rfl ?_
      refine p_no rfl rfl rfl rfl rfl ?_
      refine p_no rfl rfl rfl rfl rfl ?_
      refine p_no rfl rfl rfl rfl rfl ?_
      refine p_val (e_pick_f rfl rfl) rfl ?_
      refine p_val (e_move (v := .bool _) rfl) rfl ?_
      refine p_no rfl rfl rfl rfl rfl ?_
      refine p_no rfl rfl rfl rfl rfl ?_
      refine p_no rfl rfl rfl rfl rfl ?_
      refine p_val (e_pick_f rfl rfl) rfl ?_
      refine p_val (e_move (v := .bool _) rfl) rfl ?_
      refine p_no rfl rfl rfl rfl rfl ?_
      refine p_no rfl rfl rfl rfl rfl ?_
      refine p_no rfl rfl rfl rfl rfl ?_
      refine p_val (e_pick_f rfl rfl) rfl ?_
      refine p_val (e_move (v := .bool _) rfl) rfl ?_
      refine p_no rfl rfl rfl rfl rfl ?_
      refine p_no rfl rfl rfl rfl rfl ?_
      refine p_no rfl rfl rfl rfl rfl ?_
      refine p_val (e_pick_f rfl rfl) rfl ?_
      refine p_val (e_assign (v := .bool _) rfl) rfl ?_
      exact p_nil (x_then ⟨_, rfl, _, _, upds_eq ⟨rfl, trivial⟩, by first | (simp only [decide_eq_true_eq, eq_self, true_iff, iff_true, iff_false, Bool.false_eq_true, false_iff, ge_iff_le, gt_iff_lt, true_and, and_true, false_and, and_false, true_or, or_true, false_or, or_false, not_true_eq_false, not_false_eq_true]; omega) | simp | omega | simp_all, S⟩)
  · rintro f w ⟨u, b2, rfl, hb2, S⟩
    refine x_then (s_ret ?_)
    exact post1 (v := .bool _) Try.results23 rfl (⟨by congr 1; exact Bool.eq_iff_iff.2 (hb2.trans (Iff.trans (by unfold Rcp.right; omega) decide_eq_true_iff.symm)), S.to_below⟩)
theorem l12text (w0 : World) (r : Rcp) (hr : r.ok) :
    Ret Try.prog 20 [.agg (cat (rcpC r)).toArray] w0 fun v w' => ∃ k c, v = .slice (at_ k) (rtext r).length c ∧ St w0 w' [] [k] [Rw 5 1 (rtext r).length c (bv (rtext r))] := by
  refine enter Try.func20 rfl Try.ntmps20 (Nat.le_of_ble_eq_true rfl) ?_
  have S := St.init w0
  have h1 := num_len r.t
  have h2 := num_len r.c
  have h3 := num_len r.s
  refine s_seq (s_plain ?_)
  refine p_does (d_boxA S rfl) rfl ?_
  rintro _ w ⟨b1, rfl, S⟩
  refine p_val (e_assign (v := .slice _ _ _) rfl) rfl ?_
  refine p_nil (x_then (s_seq (s_plain ?_)))
  refine p_does (d_allocA S zs56) rfl ?_
  rintro _ w ⟨b3, rfl, S⟩
  have S := pen_new S
  refine p_nil (x_then (s_seq ?_))
  refine s_drawK (ks := [some b1]) (ps := [Ex _ _]) (S.pk [2] rfl) [(true, 0), (true, 1), (true, 3), (true, 4), (true, 6), (true, 7), (true, 9), (true, 10), (true, 12), (true, 13), (false, 2), (false, 5), (false, 8), (false, 11), (false, 14), (false, 15)] [16] [16] mixed (by kernel_rfl) (by repeat (first | exact Calm.post _ _ _ | refine Calm.then ?_ _ | refine Calm.inB ?_ _)) (fun hS => ?_)
  have S := S.drew
  refine q_val (fun w hS => e_field rfl Try.underlying46 rfl sz3 (by decide)) rfl hS ?_
  refine q_val (fun w hS => e_loadF1 (i := 0) (off := 0) rfl ag3 hS (j := 0) rfl rfl rfl (by first | with_reducible assumption | (simp [cat, rcpC, hr.1, hr.2]; done) | (simp [cat, rcpC, hr.1, hr.2]; omega) | rfl)) rfl hS ?_
  refine q_val (fun w hS => e_field rfl Try.underlying46 rfl sz3 (by decide)) rfl hS ?_
  refine q_val (fun w hS => e_loadF1 (i := 1) (off := 1) rfl ag3 hS (j := 0) rfl rfl rfl (by first | with_reducible assumption | (simp [cat, rcpC, hr.1, hr.2]; done) | (simp [cat, rcpC, hr.1, hr.2]; omega) | rfl)) rfl hS ?_
  refine q_val (fun w hS => e_field rfl Try.underlying46 rfl sz3 (by decide)) rfl hS ?_
  refine q_val (fun w hS => e_loadF1 (i := 2) (off := 2) rfl ag3 hS (j := 0) rfl rfl rfl (by first | with_reducible assumption | (simp [cat, rcpC, hr.1, hr.2]; done) | (simp [cat, rcpC, hr.1, hr.2]; omega) | rfl)) rfl hS ?_
  refine q_val (fun w hS => e_field rfl Try.underlying46 rfl sz44 (by decide)) rfl hS ?_
  refine q_val (fun w hS => e_loadFA (i := 3) (off := 3) rfl ag44 sz44 (by decide) hS (j := 0) rfl rfl rfl (by first | with_reducible assumption | (simp [cat, rcpC, hr.1, hr.2]; done) | (simp [cat, rcpC, hr.1, hr.2]; omega) | rfl) (by first | with_reducible assumption | (simp [cat, rcpC, hr.1, hr.2]; done) | (simp [cat, rcpC, hr.1, hr.2]; omega) | rfl)) rfl hS ?_
  refine q_val (fun w hS => e_field rfl Try.underlying46 rfl sz44 (by decide)) rfl hS ?_
  refine q_val (fun w hS => e_loadFA (i := 4) (off := 35) rfl ag44 sz44 (by decide) hS (j := 0) rfl rfl rfl (by first | with_reducible assumption | (simp [cat, rcpC, hr.1, hr.2]; done) | (simp [cat, rcpC, hr.1, hr.2]; omega) | rfl) (by first | with_reducible assumption | (simp [cat, rcpC, hr.1, hr.2]; done) | (simp [cat, rcpC, hr.1, hr.2]; omega) | rfl)) rfl hS ?_
  refine q_does (d_call Try.func56 nm56 rfl rfl (pen_num _ _ _ _ _ _ (S.hr [0, 1] rfl) (by first | omega | (simp only [List.length_append, List.length_cons, List.length_nil, bv_length, rcpC, hr.1, hr.2]; omega) | (simp [cat, rcpC, hr.1, hr.2]; omega)))) rfl ?_
  rintro _ w ⟨rfl, k6, c6, T⟩
  have S := (S.call [0, 1] T rfl).pk [0, 1, 4] rfl
  have hS := S.pk [2] rfl
  refine ⟨hS, ?_⟩
  refine q_does (d_call Try.func56 nm56 rfl rfl (pen_num _ _ _ _ _ _ (S.hr [0, 1] rfl) (by first | omega | (simp only [List.length_append, List.length_cons, List.length_nil, bv_length, rcpC, hr.1, hr.2]; omega) | (simp [cat, rcpC, hr.1, hr.2]; omega)))) rfl ?_
  rintro _ w ⟨rfl, k9, c9, T⟩
  have S := (S.call [0, 1] T rfl).pk [0, 1, 4] rfl
  have hS := S.pk [2] rfl
  refine ⟨hS, ?_⟩
  refine q_does (d_call Try.func56 nm56 rfl rfl (pen_num _ _ _ _ _ _ (S.hr [0, 1] rfl) (by first | omega | (simp only [List.length_append, List.length_cons, List.length_nil, bv_length, rcpC, hr.1, hr.2]; omega) | (simp [cat, rcpC, hr.1, hr.2]; omega)))) rfl ?_
  rintro _ w ⟨rfl, k12, c12, T⟩
  have S := (S.call [0, 1] T rfl).pk [0, 1, 4] rfl
  have hS := S.pk [2] rfl
  refine ⟨hS, ?_⟩
  refine q_does (d_call Try.func57 nm57 rfl rfl (pen_sum _ _ _ _ _ _ (S.hr [0, 1] rfl) (by first | with_reducible assumption | (simp [cat, rcpC, hr.1, hr.2]; done) | (simp [cat, rcpC, hr.1, hr.2]; omega) | rfl) (by first | omega | (simp only [List.length_append, List.length_cons, List.length_nil, bv_length, rcpC, hr.1, hr.2]; omega) | (simp [cat, rcpC, hr.1, hr.2]; omega)))) rfl ?_
  rintro _ w ⟨rfl, k15, c15, T⟩
  have S := (S.call [0, 1] T rfl).pk [0, 1, 4] rfl
  have hS := S.pk [2] rfl
  refine ⟨hS, ?_⟩
  refine q_does (d_call Try.func57 nm57 rfl rfl (pen_sum _ _ _ _ _ _ (S.hr [0, 1] rfl) (by first | with_reducible assumption | (simp [cat, rcpC, hr.1, hr.2]; done) | (simp [cat, rcpC, hr.1, hr.2]; omega) | rfl) (by first | omega | (simp only [List.length_append, List.length_cons, List.length_nil, bv_length, rcpC, hr.1, hr.2]; omega) | (simp [cat, rcpC, hr.1, hr.2]; omega)))) rfl ?_
  rintro _ w ⟨rfl, k18, c18, T⟩
  have S := (S.call [0, 1] T rfl).pk [0, 1, 4] rfl
  have hS := S.pk [2] rfl
  refine ⟨hS, ?_⟩
  refine q_does (d_call Try.func26 nm26 rfl rfl (pen_bytes _ _ _ _ _ (S.exact_ 0 rfl rfl) (S.rdRw 1 rfl rfl) (by first | omega | (simp only [List.length_append, List.length_cons, List.length_nil, bv_length, rcpC, hr.1, hr.2]; omega) | (simp [cat, rcpC, hr.1, hr.2]; omega)))) rfl ?_
  rintro _ w ⟨k19, c19, rfl, T⟩
  have S := S.merge T rfl
  have hS := S.pk [3] rfl
  refine ⟨hS, ?_⟩
  refine q_nil ?_
  refine p_val (e_assign (v := .slice _ _ _) rfl) rfl ?_
  refine p_nil (x_then (s_ret ?_))
  exact post1 (v := .slice _ _ _) Try.results20 rfl (by have e : [] ++ num r.t ++ num r.c ++ num r.s ++ r.h ++ r.b = rtext r := by { simp [rtext] }; rw [← e]; exact ⟨_, _, rfl, S.pk [0] rfl⟩)
end Go.Proofs.Ytcgcjklpilbndaa
