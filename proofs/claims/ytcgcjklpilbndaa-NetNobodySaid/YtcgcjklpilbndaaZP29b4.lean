/- Messages: which may be, their bytes. It proves no statement by itself. -/
import Derived.Test.YtcgcjklpilbndaaZP29b3
set_option linter.unusedSimpArgs false
set_option linter.unusedVariables false
set_option maxRecDepth 100000
set_option maxHeartbeats 2000000
namespace Go.Proofs.Ytcgcjklpilbndaa
open Go Go.RowKit E
attribute [local irreducible] wpList seqH treeH
structure Msg where
  (k f t n c p : Int)
  (h0 h1 : List Nat)
  (gk : Int)
  (go : List Nat)
  (m : Int)
  (sec : List Nat)
  (j : Jb)
  (r : Rcp)
def msgC (m : Msg) (A : Option Addr) (a x : Nat) (A2 : Option Addr) (a2 x2 : Nat) : List (List Value) :=
  [[.int .i64 m.k], [.int .i64 m.f], [.int .i64 m.t], [.int .i64 m.n], [.int .i64 m.c], [.int .i64 m.p], bv m.h0, bv m.h1, [.int .i64 m.gk], bv m.go, [.int .i64 m.m], bv m.sec, [.int .i64 m.j.c], [.int .i64 m.j.s], bv m.j.h, [.slice A a x],
   [.int .i64 m.r.t], [.int .i64 m.r.c], [.int .i64 m.r.s], bv m.r.h, bv m.r.b, [.slice A2 a2 x2]]
structure Msg.ok (m : Msg) : Prop where
  h0 : m.h0.length = 32
  h1 : m.h1.length = 32
  go : m.go.length = 32
  sec : m.sec.length = 32
  j : m.j.h.length = 32
  rh : m.r.h.length = 32
  rb : m.r.b.length = 32
def Msg.right (m : Msg) : Prop := 1 ≤ m.k ∧ m.k ≤ 5 ∧ 0 ≤ m.f ∧ m.f ≤ 255 ∧ 0 ≤ m.t ∧ m.t ≤ 255 ∧ ¬ m.f = m.t
instance (m : Msg) : Decidable m.right := by unfold Msg.right; infer_instance
def Msg.plain (m : Msg) : Prop := ((0 ≤ m.n ∧ m.n ≤ 1048576 ∧ 0 ≤ m.c ∧ m.c ≤ 1125899906842624 ∧ 0 ≤ m.p ∧ m.p ≤ 1125899906842624) ∧ (0 ≤ m.gk ∧ m.gk ≤ 255) ∧ 0 ≤ m.m ∧ m.m ≤ 1048576) ∧ (0 ≤ m.j.c ∧ m.j.c ≤ 1048576 ∧ 0 ≤ m.j.s ∧ m.j.s ≤ 1048576) ∧ 0 ≤ m.r.t ∧ m.r.t < 16 ∧ 0 ≤ m.r.c ∧ m.r.c ≤ 1048576 ∧ 0 ≤ m.r.s ∧ m.r.s ≤ 1048576
instance (m : Msg) : Decidable m.plain := by unfold Msg.plain; infer_instance
def tbody (m : Msg) (b s : List Nat) : List Nat :=
  if m.k = 1 then nums [m.n, m.c, m.p] ++ m.h0 ++ m.h1 ++ num m.gk ++ m.go
  else if m.k = 2 then num m.m ++ m.sec ++ num m.gk ++ m.go
  else if m.k = 3 then num m.m ++ m.sec
  else if m.k = 4 then num (jput m.j b).length ++ jput m.j b
  else num (sput m.r s).length ++ sput m.r s
def tput (m : Msg) (b s : List Nat) : List Nat := nums [m.k, m.f, m.t] ++ tbody m b s
theorem sput_len {r : Rcp} {s : List Nat} (h : r.ok) : (sput r s).length ≤ 114 + s.length := by
  have h1 := rtext_len h
  have h2 := num_len ((rtext r).length : Int)
  have h3 := num_len (s.length : Int)
  unfold sput
  simp only [List.length_append]; omega
theorem tput_len {m : Msg} {b s : List Nat} (h : m.ok) : (tput m b s).length ≤ 300 + b.length + s.length := by
  have hr : m.r.ok := ⟨h.rh, h.rb⟩
  have hj : m.j.ok := h.j
  have h1 := nums_len [m.k, m.f, m.t]
  have h2 := nums_len [m.n, m.c, m.p]
  have h3 := num_len m.gk
  have h4 := num_len m.m
  have h5 := jput_len (b := b) hj
  have h6 := sput_len (s := s) hr
  have h7 := num_len ((jput m.j b).length : Int)
  have h8 := num_len ((sput m.r s).length : Int)
  have e0 := h.h0
  have e1 := h.h1
  have e2 := h.go
  have e3 := h.sec
  unfold tput tbody
  simp only [List.length_cons, List.length_nil] at h1 h2
  split
  · simp only [List.length_append]; omega
  · split
    · simp only [List.length_append]; omega
    · split
      · simp only [List.length_append]; omega
      · split
        · simp only [List.length_append]; omega
        · simp only [List.length_append]; omega
theorem tk_right (w0 : World) (m : Msg) (A1 : Option Addr) (a1 x1 : Nat) (A2 : Option Addr) (a2 x2 : Nat) (hm : m.ok) :
    Ret Try.prog 45 [.agg (cat (msgC m A1 a1 x1 A2 a2 x2)).toArray] w0 fun v w' => v = .bool (decide m.right) ∧ Below w0.heap.size w0 w' := by
  refine enter Try.func45 rfl Try.ntmps45 (Nat.le_of_ble_eq_true rfl) ?_
  have S := St.init w0
  refine s_seq (s_plain ?_)
  refine p_does (d_boxA S rfl) rfl ?_
  rintro _ w ⟨b1, rfl, S⟩
  refine p_val (e_assign (v := .bool _) rfl) rfl ?_
  refine p_nil (x_then (s_seq ?_))
  refine s_cutK (ks := [some b1]) (ps := [Ex _ _]) [] trivial S (fun keep ks ps f' w' => ∃ u bb, f' = upds u ((2, .bool bb) :: keep) ∧ (bb = true ↔ ((((((((1 : Int) ≤ m.k) ∧ (m.k ≤ (5 : Int))) ∧ ((0 : Int) ≤ m.f)) ∧ (m.f ≤ (255 : Int))) ∧ ((0 : Int) ≤ m.t)) ∧ (m.t ≤ (255 : Int))) ∧ (¬ m.f = m.t))) ∧ St w0 w' [] ks ps) ?_ ?_
  · refine s_plain ?_
    refine p_val (e_field rfl Try.underlying84 rfl sz3 (by decide)) rfl ?_
    refine p_val (e_loadF1 (i := 0) (off := 0) rfl ag3 S (j := 0) rfl rfl rfl (by first | with_reducible assumption | (rw [bv_length]; with_reducible assumption) | (rw [List.size_toArray, bv_length]; with_reducible assumption) | (simp [cat, msgC, hm.h0, hm.h1, hm.go, hm.sec, hm.j, hm.rh, hm.rb]; done) | (simp [cat, msgC, hm.h0, hm.h1, hm.go, hm.sec, hm.j, hm.rh, hm.rb]; omega) | rfl)) rfl ?_
    refine p_valB (e_geq rfl rfl) rfl (fun hg5 => ?_) (fun hg5 => ?_)
    · refine p_val (e_move (v := .bool _) rfl) rfl ?_
      refine pg_val rfl rfl rfl rfl rfl (e_field rfl Try.underlying84 rfl sz3 (by decide)) ?_
      refine pg_val rfl rfl rfl rfl rfl (e_loadF1 (i := 0) (off := 0) rfl ag3 S (j := 0) rfl rfl rfl (by first | with_reducible assumption | (rw [bv_length]; with_reducible assumption) | (rw [List.size_toArray, bv_length]; with_reducible assumption) | (simp [cat, msgC, hm.h0, hm.h1, hm.go, hm.sec, hm.j, hm.rh, hm.rb]; done) | (simp [cat, msgC, hm.h0, hm.h1, hm.go, hm.sec, hm.j, hm.rh, hm.rb]; omega) | rfl)) ?_
      refine pg_valB rfl rfl rfl rfl rfl (e_leq rfl rfl) (fun hg9 => ?_) (fun hg9 => ?_)
      · refine p_val (e_pick_t rfl rfl) rfl ?_
        refine p_val (e_move (v := .bool _) rfl) rfl ?_
        refine pg_val rfl rfl rfl rfl rfl (e_field rfl Try.underlying84 rfl sz3 (by decide)) ?_
        refine pg_val rfl rfl rfl rfl rfl (e_loadF1 (i := 1) (off := 1) rfl ag3 S (j := 0) rfl rfl rfl (by first | with_reducible assumption | (rw [bv_length]; with_reducible assumption) | (rw [List.size_toArray, bv_length]; with_reducible assumption) | (simp [cat, msgC, hm.h0, hm.h1, hm.go, hm.sec, hm.j, hm.rh, hm.rb]; done) | (simp [cat, msgC, hm.h0, hm.h1, hm.go, hm.sec, hm.j, hm.rh, hm.rb]; omega) | rfl)) ?_
        refine pg_valB rfl rfl rfl rfl rfl (e_geq rfl rfl) (fun hg14 => ?_) (fun hg14 => ?_)
        · refine p_val (e_pick_t rfl rfl) rfl ?_
          refine p_val (e_move (v := .bool _) rfl) rfl ?_
          refine pg_val rfl rfl rfl rfl rfl (e_field rfl Try.underlying84 rfl sz3 (by decide)) ?_
          refine pg_val rfl rfl rfl rfl rfl (e_loadF1 (i := 1) (off := 1) rfl ag3 S (j := 0) rfl rfl rfl (by first | with_reducible assumption | (rw [bv_length]; with_reducible assumption) | (rw [List.size_toArray, bv_length]; with_reducible assumption) | (simp [cat, msgC, hm.h0, hm.h1, hm.go, hm.sec, hm.j, hm.rh, hm.rb]; done) | (simp [cat, msgC, hm.h0, hm.h1, hm.go, hm.sec, hm.j, hm.rh, hm.rb]; omega) | rfl)) ?_
          refine pg_valB rfl rfl rfl rfl rfl (e_leq rfl rfl) (fun hg19 => ?_) (fun hg19 => ?_)
          · refine p_val (e_pick_t rfl rfl) rfl ?_
            refine p_val (e_move (v := .bool _) rfl) rfl ?_
            refine pg_val rfl rfl rfl rfl rfl (e_field rfl Try.underlying84 rfl sz3 (by decide)) ?_
            refine pg_val rfl rfl rfl rfl rfl (e_loadF1 (i := 2) (off := 2) rfl ag3 S (j := 0) rfl rfl rfl (by first | with_reducible assumption | (rw [bv_length]; with_reducible assumption) | (rw [List.size_toArray, bv_length]; with_reducible assumption) | (simp [cat, msgC, hm.h0, hm.h1, hm.go, hm.sec, hm.j, hm.rh, hm.rb]; done) | (simp [cat, msgC, hm.h0, hm.h1, hm.go, hm.sec, hm.j, hm.rh, hm.rb]; omega) | rfl)) ?_
            refine pg_valB rfl rfl rfl rfl rfl (e_geq rfl rfl) (fun hg24 => ?_) (fun hg24 => ?_)
            · refine p_val (e_pick_t rfl rfl) rfl ?_
              refine p_val (e_move (v := .bool _) rfl) rfl ?_
              refine pg_val rfl rfl rfl rfl rfl (e_field rfl Try.underlying84 rfl sz3 (by decide)) ?_
              refine pg_val rfl rfl rfl rfl rfl (e_loadF1 (i := 2) (off := 2) rfl ag3 S (j := 0) rfl rfl rfl (by first | with_reducible assumption | (rw [bv_length]; with_reducible assumption) | (rw [List.size_toArray, bv_length]; with_reducible assumption) | (simp [cat, msgC, hm.h0, hm.h1, hm.go, hm.sec, hm.j, hm.rh, hm.rb]; done) | (simp [cat, msgC, hm.h0, hm.h1, hm.go, hm.sec, hm.j, hm.rh, hm.rb]; omega) | rfl)) ?_
              refine pg_valB rfl rfl rfl rfl rfl (e_leq rfl rfl) (fun hg29 => ?_) (fun hg29 => ?_)
              · refine p_val (e_pick_t rfl rfl) rfl ?_
                refine p_val (e_move (v := .bool _) rfl) rfl ?_
                refine pg_val rfl rfl rfl rfl rfl (e_field rfl Try.underlying84 rfl sz3 (by decide)) ?_
                refine pg_val rfl rfl rfl rfl rfl (e_loadF1 (i := 1) (off := 1) rfl ag3 S (j := 0) rfl rfl rfl (by first | with_reducible assumption | (rw [bv_length]; with_reducible assumption) | (rw [List.size_toArray, bv_length]; with_reducible assumption) | (simp [cat, msgC, hm.h0, hm.h1, hm.go, hm.sec, hm.j, hm.rh, hm.rb]; done) | (simp [cat, msgC, hm.h0, hm.h1, hm.go, hm.sec, hm.j, hm.rh, hm.rb]; omega) | rfl)) ?_
                refine pg_val rfl rfl rfl rfl rfl (e_field rfl Try.underlying84 rfl sz3 (by decide)) ?_
                refine pg_val rfl rfl rfl rfl rfl (e_loadF1 (i := 2) (off := 2) rfl ag3 S (j := 0) rfl rfl rfl (by first | with_reducible assumption | (rw [bv_length]; with_reducible assumption) | (rw [List.size_toArray, bv_length]; with_reducible assumption) | (simp [cat, msgC, hm.h0, hm.h1, hm.go, hm.sec, hm.j, hm.rh, hm.rb]; done) | (simp [cat, msgC, hm.h0, hm.h1, hm.go, hm.sec, hm.j, hm.rh, hm.rb]; omega) | rfl)) ?_
                refine pg_val rfl rfl rfl rfl rfl (e_neq rfl rfl) ?_
                refine p_val (e_pick_t rfl rfl) rfl ?_
                refine p_val (e_assign (v := .bool _) rfl) rfl ?_
                exact p_nil (x_then ⟨_, rfl, _, _, upds_eq ⟨rfl, trivial⟩, by first | (simp only [decide_eq_true_eq, eq_self, true_iff, iff_true, iff_false, Bool.false_eq_true, false_iff, ge_iff_le, gt_iff_lt, true_and, and_true, false_and, and_false, true_or, or_true, false_or, or_false, not_true_eq_false, not_false_eq_true]; omega) | (simp; done) | omega | (simp_all; done), S⟩)
              · refine p_val (e_pick_t rfl rfl) rfl ?_
                refine p_val (e_move (v := .bool _) rfl) rfl ?_
                refine p_no rfl rfl rfl rfl rfl ?_
                refine p_no rfl rfl rfl rfl rfl ?_
                refine p_no rfl rfl rfl rfl rfl ?_
                refine p_no rfl rfl rfl rfl rfl ?_
                refine p_no rfl rfl rfl rfl rfl ?_
                refine p_val (e_pick_f rfl rfl) rfl ?_
                refine p_val (e_assign (v := .bool _) rfl) rfl ?_
                exact p_nil (x_then ⟨_, rfl, _, _, upds_eq ⟨rfl, trivial⟩, by first | (simp only [decide_eq_true_eq, eq_self, true_iff, iff_true, iff_false, Bool.false_eq_true, false_iff, ge_iff_le, gt_iff_lt, true_and, and_true, false_and, and_false, true_or, or_true, false_or, or_false, not_true_eq_false, not_false_eq_true]; omega) | (simp; done) | omega | (simp_all; done), S⟩)
            · refine p_val (e_pick_t rfl rfl) rfl ?_
              refine p_val (e_move (v := .bool _) rfl) rfl ?_
              refine p_no rfl rfl rfl rfl rfl ?_
              refine p_no rfl rfl rfl rfl rfl ?_
              refine p_no rfl rfl rfl rfl rfl ?_
              refine p_val (e_pick_f rfl rfl) rfl ?_
              refine p_val (e_move (v := .bool _) rfl) rfl ?_
              refine p_no rfl rfl rfl rfl rfl ?_
              refine p_no rfl rfl rfl rfl rfl ?_
              refine p_no rfl rfl rfl rfl rfl ?_
              refine p_no rfl rfl rfl rfl rfl ?_
              refine p_no rfl rfl rfl rfl rfl ?_
              refine p_val (e_pick_f rfl rfl) rfl ?_
              refine p_val (e_assign (v := .bool _) rfl) rfl ?_
              exact p_nil (x_then ⟨_, rfl, _, _, upds_eq ⟨rfl, trivial⟩, by first | (simp only [decide_eq_true_eq, eq_self, true_iff, iff_true, iff_false, Bool.false_eq_true, false_iff, ge_iff_le, gt_iff_lt, true_and, and_true, false_and, and_false, true_or, or_true, false_or, or_false, not_true_eq_false, not_false_eq_true]; omega) | (simp; done) | omega | (simp_all; done), S⟩)
          · refine p_val (e_pick_t rfl rfl) rfl ?_
            refine p_val (e_move (v := .bool _) rfl) rfl ?_
            refine p_no rfl rfl rfl rfl rfl ?_
            refine p_no rfl rfl rfl rfl rfl ?_
            refine p_no rfl rfl rfl rfl rfl ?_
            refine p_val (e_pick_f rfl rfl) rfl ?_
            refine p_val (e_move (v := .bool _) rfl) rfl ?_
            refine p_no rfl rfl rfl rfl rfl ?_
            refine p_no rfl rfl rfl rfl rfl ?_
            refine p_no rfl rfl rfl rfl rfl ?_
            refine p_val (e_pick_f rfl rfl) rfl ?_
            refine p_val (e_move (v := .bool _) rfl) rfl ?_
            refine p_no rfl rfl rfl rfl rfl ?_
            refine p_no rfl rfl rfl rfl rfl ?_
            refine p_no rfl rfl rfl rfl rfl ?_
            refine p_no rfl rfl rfl rfl rfl ?_
            refine p_no rfl rfl rfl rfl rfl ?_
            refine p_val (e_pick_f rfl rfl) rfl ?_
            refine p_val (e_assign (v := .bool _) rfl) rfl ?_
            exact p_nil (x_then ⟨_, rfl, _, _, upds_eq ⟨rfl, trivial⟩, by first | (simp only [decide_eq_true_eq, eq_self, true_iff, iff_true, iff_false, Bool.false_eq_true, false_iff, ge_iff_le, gt_iff_lt, true_and, and_true, false_and, and_false, true_or, or_true, false_or, or_false, not_true_eq_false, not_false_eq_true]; omega) | (simp; done) | omega | (simp_all; done), S⟩)
        · refine p_val (e_pick_t rfl rfl) rfl ?_
          refine p_val (e_move (v := .bool _) rfl) rfl ?_
          refine p_no rfl rfl rfl rfl rfl ?_
          refine p_no rfl rfl rfl rfl rfl ?_
          refine p_no rfl rfl rfl rfl rfl ?_
          refine p_val (e_pick_f rfl rfl) rfl ?_
          refine p_val (e_move (v := .bool _) rfl) rfl ?_
          refine p_no rfl rfl rfl rfl rfl ?_
          refine p_no rfl rfl rfl rfl rfl ?_
          refine p_no rfl rfl rfl rfl rfl ?_
          refine p_val (e_pick_f rfl rfl) rfl ?_
          refine p_val (e_move (v := .bool _) rfl) rfl ?_
          refine p_no rfl rfl rfl rfl rfl ?_
          refine p_no rfl rfl rfl rfl rfl ?_
          refine p_no rfl rfl rfl rfl rfl ?_
          refine p_val (e_pick_f rfl rfl) rfl ?_
          refine p_val (e_move (v := .bool _) rfl) rfl ?_
          refine p_no rfl rfl rfl rfl rfl ?_
          refine p_no rfl rfl rfl rfl rfl ?_
          refine p_no rfl rfl rfl rfl rfl ?_
          refine p_no rfl rfl rfl rfl rfl ?_
          refine p_no rfl rfl rfl rfl rfl ?_
          refine p_val (e_pick_f rfl rfl) rfl ?_
          refine p_val (e_assign (v := .bool _) rfl) rfl ?_
          exact p_nil (x_then ⟨_, rfl, _, _, upds_eq ⟨rfl, trivial⟩, by first | (simp only [decide_eq_true_eq, eq_self, true_iff, iff_true, iff_false, Bool.false_eq_true, false_iff, ge_iff_le, gt_iff_lt, true_and, and_true, false_and, and_false, true_or, or_true, false_or, or_false, not_true_eq_false, not_false_eq_true]; omega) | (simp; done) | omega | (simp_all; done), S⟩)
      · refine p_val (e_pick_t rfl rfl) rfl ?_
        refine p_val (e_move (v := .bool _) rfl) rfl ?_
        refine p_no rfl rfl rfl rfl rfl ?_
        refine p_no rfl rfl rfl rfl rfl ?_
        refine p_no rfl rfl rfl rfl rfl ?_
        refine p_val (e_pick_f rfl rfl) rfl ?_
        refine p_val (e_move (v := .bool _) rfl) rfl ?_
        refine p_no rfl rfl rfl rfl rfl ?_
        refine p_no rfl rfl rfl rfl rfl ?_
        refine p_no rfl rfl rfl rfl rfl ?_
        refine p_val (e_pick_f rfl rfl) rfl ?_
        refine p_val (e_move (v := .bool _) rfl) rfl ?_
        refine p_no rfl rfl rfl rfl rfl ?_
        refine p_no rfl rfl rfl rfl rfl ?_
        refine p_no rfl rfl rfl rfl rfl ?_
        refine p_val (e_pick_f rfl rfl) rfl ?_
        refine p_val (e_move (v := .bool _) rfl) rfl ?_
        refine p_no rfl rfl rfl rfl rfl ?_
        refine p_no rfl rfl rfl rfl rfl ?_
        refine p_no rfl rfl rfl rfl rfl ?_
        refine p_val (e_pick_f rfl rfl) rfl ?_
        refine p_val (e_move (v := .bool _) rfl) rfl ?_
        refine p_no rfl rfl rfl rfl rfl ?_
        refine p_no rfl rfl rfl rfl rfl ?_
        refine p_no rfl rfl rfl rfl rfl ?_
        refine p_no rfl rfl rfl rfl rfl ?_
        refine p_no rfl rfl rfl rfl rfl ?_
        refine p_val (e_pick_f rfl rfl) rfl ?_
        refine p_val (e_assign (v := .bool _) rfl) rfl ?_
        exact p_nil (x_then ⟨_, rfl, _, _, upds_eq ⟨rfl, trivial⟩, by first | (simp only [decide_eq_true_eq, eq_self, true_iff, iff_true, iff_false, Bool.false_eq_true, false_iff, ge_iff_le, gt_iff_lt, true_and, and_true, false_and, and_false, true_or, or_true, false_or, or_false, not_true_eq_false, not_false_eq_true]; omega) | (simp; done) | omega | (simp_all; done), S⟩)
    · refine p_val (e_move (v := .bool _) rfl) rfl ?_
      refine p_no rfl rfl rfl rfl rfl ?_
      refine p_no rfl rfl rfl rfl rfl ?_
      refine p_no rfl rfl rfl rfl rfl ?_
      refine p_val (e_pick_f rfl rfl) rfl ?_
      refine p_val (e_move (v := .bool _) rfl) rfl ?_
      refine p_no rfl rfl rfl rfl rfl ?_
      refine p_no rfl rfl rfl rfl rfl ?_
      refine p_no rfl rfl rfl rfl rfl ?_
      refine p_val (e_pick_f rfl rfl) rfl ?_
      refine p_val (e_move (v := .bool _) rfl) rfl ?_
      refine p_no rfl rfl rfl rfl rfl ?_
      refine p_no rfl rfl rfl rfl rfl ?_
      refine p_no rfl rfl rfl rfl rfl ?_
      refine p_val (e_pick_f rfl rfl) rfl ?_
      refine p_val (e_move (v := .bool _) rfl) rfl ?_
      refine p_no rfl rfl rfl rfl rfl ?_
      refine p_no rfl rfl rfl rfl rfl ?_
      refine p_no rfl rfl rfl rfl rfl ?_
      refine p_val (e_pick_f rfl rfl) rfl ?_
      refine p_val (e_move (v := .bool _) rfl) rfl ?_
      refine p_no rfl rfl rfl rfl rfl ?_
      refine p_no rfl rfl rfl rfl rfl ?_
      refine p_no rfl rfl rfl rfl rfl ?_
      refine p_val (e_pick_f rfl rfl) rfl ?_
      refine p_val (e_move (v := .bool _) rfl) rfl ?_
      refine p_no rfl rfl rfl rfl rfl ?_
      refine p_no rfl rfl rfl rfl rfl ?_
      refine p_no rfl rfl rfl rfl rfl ?_
      refine p_no rfl rfl rfl rfl rfl ?_
      refine p_no rfl rfl rfl rfl rfl ?_
      refine p_val (e_pick_f rfl rfl) rfl ?_
      refine p_val (e_assign (v := .bool _) rfl) rfl ?_
      exact p_nil (x_then ⟨_, rfl, _, _, upds_eq ⟨rfl, trivial⟩, by first | (simp only [decide_eq_true_eq, eq_self, true_iff, iff_true, iff_false, Bool.false_eq_true, false_iff, ge_iff_le, gt_iff_lt, true_and, and_true, false_and, and_false, true_or, or_true, false_or, or_false, not_true_eq_false, not_false_eq_true]; omega) | (simp; done) | omega | (simp_all; done), S⟩)
  · rintro f w ⟨u, b2, rfl, hb2, S⟩
    refine x_then (s_ret ?_)
    exact post1 (v := .bool _) Try.results45 rfl (⟨by rw [Value.bool.injEq, Bool.eq_iff_iff, hb2, decide_eq_true_eq]; unfold Msg.right; omega, S.to_below⟩)
theorem l28right (w0 : World) (m : Msg) (A1 : Option Addr) (a1 x1 : Nat) (A2 : Option Addr) (a2 x2 : Nat) (hm : m.ok) :
    Ret Try.prog 46 [.agg (cat (msgC m A1 a1 x1 A2 a2 x2)).toArray] w0 fun v w' => v = .bool (decide m.right) ∧ Below w0.heap.size w0 w' := by
  refine enter Try.func46 rfl Try.ntmps46 (Nat.le_of_ble_eq_true rfl) ?_
  have S := St.init w0
  refine s_seq (s_plain ?_)
  refine p_does (d_boxA S rfl) rfl ?_
  rintro _ w ⟨b1, rfl, S⟩
  refine p_val (e_assign (v := .bool _) rfl) rfl ?_
  refine p_nil (x_then (s_seq ?_))
  refine s_cutK (ks := [some b1]) (ps := [Ex _ _]) [] trivial S (fun keep ks ps f' w' => ∃ u bb, f' = upds u ((2, .bool bb) :: keep) ∧ (bb = true ↔ ((((((((0 : Int) < m.k) ∧ (m.k < (6 : Int))) ∧ ((0 : Int) ≤ m.f)) ∧ (m.f < (256 : Int))) ∧ ((0 : Int) ≤ m.t)) ∧ (m.t < (256 : Int))) ∧ (¬ m.f = m.t))) ∧ St w0 w' [] ks ps) ?_ ?_
  · refine s_plain ?_
    refine p_val (e_field rfl Try.underlying84 rfl sz3 (by decide)) rfl ?_
    refine p_val (e_loadF1 (i := 0) (off := 0) rfl ag3 S (j := 0) rfl rfl rfl (by first | with_reducible assumption | (rw [bv_length]; with_reducible assumption) | (rw [List.size_toArray, bv_length]; with_reducible assumption) | (simp [cat, msgC, hm.h0, hm.h1, hm.go, hm.sec, hm.j, hm.rh, hm.rb]; done) | (simp [cat, msgC, hm.h0, hm.h1, hm.go, hm.sec, hm.j, hm.rh, hm.rb]; omega) | rfl)) rfl ?_
    refine p_valB (e_gtr rfl rfl) rfl (fun hg5 => ?_) (fun hg5 => ?_)
    · refine p_val (e_move (v := .bool _) rfl) rfl ?_
      refine pg_val rfl rfl rfl rfl rfl (e_field rfl Try.underlying84 rfl sz3 (by decide)) ?_
      refine pg_val rfl rfl rfl rfl rfl (e_loadF1 (i := 0) (off := 0) rfl ag3 S (j := 0) rfl rfl rfl (by first | with_reducible assumption | (rw [bv_length]; with_reducible assumption) | (rw [List.size_toArray, bv_length]; with_reducible assumption) | (simp [cat, msgC, hm.h0, hm.h1, hm.go, hm.sec, hm.j, hm.rh, hm.rb]; done) | (simp [cat, msgC, hm.h0, hm.h1, hm.go, hm.sec, hm.j, hm.rh, hm.rb]; omega) | rfl)) ?_
      refine pg_valB rfl rfl rfl rfl rfl (e_lss rfl rfl) (fun hg9 => ?_) (fun hg9 => ?_)
      · refine p_val (e_pick_t rfl rfl) rfl ?_
        refine p_val (e_move (v := .bool _) rfl) rfl ?_
        refine pg_val rfl rfl rfl rfl rfl (e_field rfl Try.underlying84 rfl sz3 (by decide)) ?_
        refine pg_val rfl rfl rfl rfl rfl (e_loadF1 (i := 1) (off := 1) rfl ag3 S (j := 0) rfl rfl rfl (by first | with_reducible assumption | (rw [bv_length]; with_reducible assumption) | (rw [List.size_toArray, bv_length]; with_reducible assumption) | (simp [cat, msgC, hm.h0, hm.h1, hm.go, hm.sec, hm.j, hm.rh, hm.rb]; done) | (simp [cat, msgC, hm.h0, hm.h1, hm.go, hm.sec, hm.j, hm.rh, hm.rb]; omega) | rfl)) ?_
        refine pg_valB rfl rfl rfl rfl rfl (e_geq rfl rfl) (fun hg14 => ?_) (fun hg14 => ?_)
        · refine p_val (e_pick_t rfl rfl) rfl ?_
          refine p_val (e_move (v := .bool _) rfl) rfl ?_
          refine pg_val rfl rfl rfl rfl rfl (e_field rfl Try.underlying84 rfl sz3 (by decide)) ?_
          refine pg_val rfl rfl rfl rfl rfl (e_loadF1 (i := 1) (off := 1) rfl ag3 S (j := 0) rfl rfl rfl (by first | with_reducible assumption | (rw [bv_length]; with_reducible assumption) | (rw [List.size_toArray, bv_length]; with_reducible assumption) | (simp [cat, msgC, hm.h0, hm.h1, hm.go, hm.sec, hm.j, hm.rh, hm.rb]; done) | (simp [cat, msgC, hm.h0, hm.h1, hm.go, hm.sec, hm.j, hm.rh, hm.rb]; omega) | rfl)) ?_
          refine pg_valB rfl rfl rfl rfl rfl (e_lss rfl rfl) (fun hg19 => ?_) (fun hg19 => ?_)
          · refine p_val (e_pick_t rfl rfl) rfl ?_
            refine p_val (e_move (v := .bool _) rfl) rfl ?_
            refine pg_val rfl rfl rfl rfl rfl (e_field rfl Try.underlying84 rfl sz3 (by decide)) ?_
            refine pg_val rfl rfl rfl rfl rfl (e_loadF1 (i := 2) (off := 2) rfl ag3 S (j := 0) rfl rfl rfl (by first | with_reducible assumption | (rw [bv_length]; with_reducible assumption) | (rw [List.size_toArray, bv_length]; with_reducible assumption) | (simp [cat, msgC, hm.h0, hm.h1, hm.go, hm.sec, hm.j, hm.rh, hm.rb]; done) | (simp [cat, msgC, hm.h0, hm.h1, hm.go, hm.sec, hm.j, hm.rh, hm.rb]; omega) | rfl)) ?_
            refine pg_valB rfl rfl rfl rfl rfl (e_geq rfl rfl) (fun hg24 => ?_) (fun hg24 => ?_)
            · refine p_val (e_pick_t rfl rfl) rfl ?_
              refine p_val (e_move (v := .bool _) rfl) rfl ?_
              refine pg_val rfl rfl rfl rfl rfl (e_field rfl Try.underlying84 rfl sz3 (by decide)) ?_
              refine pg_val rfl rfl rfl rfl rfl (e_loadF1 (i := 2) (off := 2) rfl ag3 S (j := 0) rfl rfl rfl (by first | with_reducible assumption | (rw [bv_length]; with_reducible assumption) | (rw [List.size_toArray, bv_length]; with_reducible assumption) | (simp [cat, msgC, hm.h0, hm.h1, hm.go, hm.sec, hm.j, hm.rh, hm.rb]; done) | (simp [cat, msgC, hm.h0, hm.h1, hm.go, hm.sec, hm.j, hm.rh, hm.rb]; omega) | rfl)) ?_
              refine pg_valB rfl rfl rfl rfl rfl (e_lss rfl rfl) (fun hg29 => ?_) (fun hg29 => ?_)
              · refine p_val (e_pick_t rfl rfl) rfl ?_
                refine p_val (e_move (v := .bool _) rfl) rfl ?_
                refine pg_val rfl rfl rfl rfl rfl (e_field rfl Try.underlying84 rfl sz3 (by decide)) ?_
                refine pg_val rfl rfl rfl rfl rfl (e_loadF1 (i := 1) (off := 1) rfl ag3 S (j := 0) rfl rfl rfl (by first | with_reducible assumption | (rw [bv_length]; with_reducible assumption) | (rw [List.size_toArray, bv_length]; with_reducible assumption) | (simp [cat, msgC, hm.h0, hm.h1, hm.go, hm.sec, hm.j, hm.rh, hm.rb]; done) | (simp [cat, msgC, hm.h0, hm.h1, hm.go, hm.sec, hm.j, hm.rh, hm.rb]; omega) | rfl)) ?_
                refine pg_val rfl rfl rfl rfl rfl (e_field rfl Try.underlying84 rfl sz3 (by decide)) ?_
                refine pg_val rfl rfl rfl rfl rfl (e_loadF1 (i := 2) (off := 2) rfl ag3 S (j := 0) rfl rfl rfl (by first | with_reducible assumption | (rw [bv_length]; with_reducible assumption) | (rw [List.size_toArray, bv_length]; with_reducible assumption) | (simp [cat, msgC, hm.h0, hm.h1, hm.go, hm.sec, hm.j, hm.rh, hm.rb]; done) | (simp [cat, msgC, hm.h0, hm.h1, hm.go, hm.sec, hm.j, hm.rh, hm.rb]; omega) | rfl)) ?_
                refine pg_val rfl rfl rfl rfl rfl (e_neq rfl rfl) ?_
                refine p_val (e_pick_t rfl rfl) rfl ?_
                refine p_val (e_assign (v := .bool _) rfl) rfl ?_
                exact p_nil (x_then ⟨_, rfl, _, _, upds_eq ⟨rfl, trivial⟩, by first | (simp only [decide_eq_true_eq, eq_self, true_iff, iff_true, iff_false, Bool.false_eq_true, false_iff, ge_iff_le, gt_iff_lt, true_and, and_true, false_and, and_false, true_or, or_true, false_or, or_false, not_true_eq_false, not_false_eq_true]; omega) | (simp; done) | omega | (simp_all; done), S⟩)
              · refine p_val (e_pick_t rfl rfl) rfl ?_
                refine p_val (e_move (v := .bool _) rfl) rfl ?_
                refine p_no rfl rfl rfl rfl rfl ?_
                refine p_no rfl rfl rfl rfl rfl ?_
                refine p_no rfl rfl rfl rfl rfl ?_
                refine p_no rfl rfl rfl rfl rfl ?_
                refine p_no rfl rfl rfl rfl rfl ?_
                refine p_val (e_pick_f rfl rfl) rfl ?_
                refine p_val (e_assign (v := .bool _) rfl) rfl ?_
                exact p_nil (x_then ⟨_, rfl, _, _, upds_eq ⟨rfl, trivial⟩, by first | (simp only [decide_eq_true_eq, eq_self, true_iff, iff_true, iff_false, Bool.false_eq_true, false_iff, ge_iff_le, gt_iff_lt, true_and, and_true, false_and, and_false, true_or, or_true, false_or, or_false, not_true_eq_false, not_false_eq_true]; omega) | (simp; done) | omega | (simp_all; done), S⟩)
            · refine p_val (e_pick_t rfl rfl) rfl ?_
              refine p_val (e_move (v := .bool _) rfl) rfl ?_
              refine p_no rfl rfl rfl rfl rfl ?_
              refine p_no rfl rfl rfl rfl rfl ?_
              refine p_no rfl rfl rfl rfl rfl ?_
              refine p_val (e_pick_f rfl rfl) rfl ?_
              refine p_val (e_move (v := .bool _) rfl) rfl ?_
              refine p_no rfl rfl rfl rfl rfl ?_
              refine p_no rfl rfl rfl rfl rfl ?_
              refine p_no rfl rfl rfl rfl rfl ?_
              refine p_no rfl rfl rfl rfl rfl ?_
              refine p_no rfl rfl rfl rfl rfl ?_
              refine p_val (e_pick_f rfl rfl) rfl ?_
              refine p_val (e_assign (v := .bool _) rfl) rfl ?_
              exact p_nil (x_then ⟨_, rfl, _, _, upds_eq ⟨rfl, trivial⟩, by first | (simp only [decide_eq_true_eq, eq_self, true_iff, iff_true, iff_false, Bool.false_eq_true, false_iff, ge_iff_le, gt_iff_lt, true_and, and_true, false_and, and_false, true_or, or_true, false_or, or_false, not_true_eq_false, not_false_eq_true]; omega) | (simp; done) | omega | (simp_all; done), S⟩)
          · refine p_val (e_pick_t rfl rfl) rfl ?_
            refine p_val (e_move (v := .bool _) rfl) rfl ?_
            refine p_no rfl rfl rfl rfl rfl ?_
            refine p_no rfl rfl rfl rfl rfl ?_
            refine p_no rfl rfl rfl rfl rfl ?_
            refine p_val (e_pick_f rfl rfl) rfl ?_
            refine p_val (e_move (v := .bool _) rfl) rfl ?_
            refine p_no rfl rfl rfl rfl rfl ?_
            refine p_no rfl rfl rfl rfl rfl ?_
            refine p_no rfl rfl rfl rfl rfl ?_
            refine p_val (e_pick_f rfl rfl) rfl ?_
            refine p_val (e_move (v := .bool _) rfl) rfl ?_
            refine p_no rfl rfl rfl rfl rfl ?_
            refine p_no rfl rfl rfl rfl rfl ?_
            refine p_no rfl rfl rfl rfl rfl ?_
            refine p_no rfl rfl rfl rfl rfl ?_
            refine p_no rfl rfl rfl rfl rfl ?_
            refine p_val (e_pick_f rfl rfl) rfl ?_
            refine p_val (e_assign (v := .bool _) rfl) rfl ?_
            exact p_nil (x_then ⟨_, rfl, _, _, upds_eq ⟨rfl, trivial⟩, by first | (simp only [decide_eq_true_eq, eq_self, true_iff, iff_true, iff_false, Bool.false_eq_true, false_iff, ge_iff_le, gt_iff_lt, true_and, and_true, false_and, and_false, true_or, or_true, false_or, or_false, not_true_eq_false, not_false_eq_true]; omega) | (simp; done) | omega | (simp_all; done), S⟩)
        · refine p_val (e_pick_t rfl rfl) rfl ?_
          refine p_val (e_move (v := .bool _) rfl) rfl ?_
          refine p_no rfl rfl rfl rfl rfl ?_
          refine p_no rfl rfl rfl rfl rfl ?_
          refine p_no rfl rfl rfl rfl rfl ?_
          refine p_val (e_pick_f rfl rfl) rfl ?_
          refine p_val (e_move (v := .bool _) rfl) rfl ?_
          refine p_no rfl rfl rfl rfl rfl ?_
          refine p_no rfl rfl rfl rfl rfl ?_
          refine p_no rfl rfl rfl rfl rfl ?_
          refine p_val (e_pick_f rfl rfl) rfl ?_
          refine p_val (e_move (v := .bool _) rfl) rfl ?_
          refine p_no rfl rfl rfl rfl rfl ?_
          refine p_no rfl rfl rfl rfl rfl ?_
          refine p_no rfl rfl rfl rfl rfl ?_
          refine p_val (e_pick_f rfl rfl) rfl ?_
          refine p_val (e_move (v := .bool _) rfl) rfl ?_
          refine p_no rfl rfl rfl rfl rfl ?_
          refine p_no rfl rfl rfl rfl rfl ?_
          refine p_no rfl rfl rfl rfl rfl ?_
          refine p_no rfl rfl rfl rfl rfl ?_
          refine p_no rfl rfl rfl rfl rfl ?_
          refine p_val (e_pick_f rfl rfl) rfl ?_
          refine p_val (e_assign (v := .bool _) rfl) rfl ?_
          exact p_nil (x_then ⟨_, rfl, _, _, upds_eq ⟨rfl, trivial⟩, by first | (simp only [decide_eq_true_eq, eq_self, true_iff, iff_true, iff_false, Bool.false_eq_true, false_iff, ge_iff_le, gt_iff_lt, true_and, and_true, false_and, and_false, true_or, or_true, false_or, or_false, not_true_eq_false, not_false_eq_true]; omega) | (simp; done) | omega | (simp_all; done), S⟩)
      · refine p_val (e_pick_t rfl rfl) rfl ?_
        refine p_val (e_move (v := .bool _) rfl) rfl ?_
        refine p_no rfl rfl rfl rfl rfl ?_
        refine p_no rfl rfl rfl rfl rfl ?_
        refine p_no rfl rfl rfl rfl rfl ?_
        refine p_val (e_pick_f rfl rfl) rfl ?_
        refine p_val (e_move (v := .bool _) rfl) rfl ?_
        refine p_no rfl rfl rfl rfl rfl ?_
        refine p_no rfl rfl rfl rfl rfl ?_
        refine p_no rfl rfl rfl rfl rfl ?_
        refine p_val (e_pick_f rfl rfl) rfl ?_
        refine p_val (e_move (v := .bool _) rfl) rfl ?_
        refine p_no rfl rfl rfl rfl rfl ?_
        refine p_no rfl rfl rfl rfl rfl ?_
        refine p_no rfl rfl rfl rfl rfl ?_
        refine p_val (e_pick_f rfl rfl) rfl ?_
        refine p_val (e_move (v := .bool _) rfl) rfl ?_
        refine p_no rfl rfl rfl rfl rfl ?_
        refine p_no rfl rfl rfl rfl rfl ?_
        refine p_no rfl rfl rfl rfl rfl ?_
        refine p_val (e_pick_f rfl rfl) rfl ?_
        refine p_val (e_move (v := .bool _) rfl) rfl ?_
        refine p_no rfl rfl rfl rfl rfl ?_
        refine p_no rfl rfl rfl rfl rfl ?_
        refine p_no rfl rfl rfl rfl rfl ?_
        refine p_no rfl rfl rfl rfl rfl ?_
        refine p_no rfl rfl rfl rfl rfl ?_
        refine p_val (e_pick_f rfl rfl) rfl ?_
        refine p_val (e_assign (v := .bool _) rfl) rfl ?_
        exact p_nil (x_then ⟨_, rfl, _, _, upds_eq ⟨rfl, trivial⟩, by first | (simp only [decide_eq_true_eq, eq_self, true_iff, iff_true, iff_false, Bool.false_eq_true, false_iff, ge_iff_le, gt_iff_lt, true_and, and_true, false_and, and_false, true_or, or_true, false_or, or_false, not_true_eq_false, not_false_eq_true]; omega) | (simp; done) | omega | (simp_all; done), S⟩)
    · refine p_val (e_move (v := .bool _) rfl) rfl ?_
      refine p_no rfl rfl rfl rfl rfl ?_
      refine p_no rfl rfl rfl rfl rfl ?_
      refine p_no rfl rfl rfl rfl rfl ?_
      refine p_val (e_pick_f rfl rfl) rfl ?_
      refine p_val (e_move (v := .bool _) rfl) rfl ?_
      refine p_no rfl rfl rfl rfl rfl ?_
      refine p_no rfl rfl rfl rfl rfl ?_
      refine p_no rfl rfl rfl rfl rfl ?_
      refine p_val (e_pick_f rfl rfl) rfl ?_
      refine p_val (e_move (v := .bool _) rfl) rfl ?_
      refine p_no rfl rfl rfl rfl rfl ?_
      refine p_no rfl rfl rfl rfl rfl ?_
      refine p_no rfl rfl rfl rfl rfl ?_
      refine p_val (e_pick_f rfl rfl) rfl ?_
      refine p_val (e_move (v := .bool _) rfl) rfl ?_
      refine p_no rfl rfl rfl rfl rfl ?_
      refine p_no rfl rfl rfl rfl rfl ?_
      refine p_no rfl rfl rfl rfl rfl ?_
      refine p_val (e_pick_f rfl rfl) rfl ?_
      refine p_val (e_move (v := .bool _) rfl) rfl ?_
      refine p_no rfl rfl rfl rfl rfl ?_
      refine p_no rfl rfl rfl rfl rfl ?_
      refine p_no rfl rfl rfl rfl rfl ?_
      refine p_val (e_pick_f rfl rfl) rfl ?_
      refine p_val (e_move (v := .bool _) rfl) rfl ?_
      refine p_no rfl rfl rfl rfl rfl ?_
      refine p_no rfl rfl rfl rfl rfl ?_
      refine p_no rfl rfl rfl rfl rfl ?_
      refine p_no rfl rfl rfl rfl rfl ?_
      refine p_no rfl rfl rfl rfl rfl ?_
      refine p_val (e_pick_f rfl rfl) rfl ?_
      refine p_val (e_assign (v := .bool _) rfl) rfl ?_
      exact p_nil (x_then ⟨_, rfl, _, _, upds_eq ⟨rfl, trivial⟩, by first | (simp only [decide_eq_true_eq, eq_self, true_iff, iff_true, iff_false, Bool.false_eq_true, false_iff, ge_iff_le, gt_iff_lt, true_and, and_true, false_and, and_false, true_or, or_true, false_or, or_false, not_true_eq_false, not_false_eq_true]; omega) | (simp; done) | omega | (simp_all; done), S⟩)
  · rintro f w ⟨u, b2, rfl, hb2, S⟩
    refine x_then (s_ret ?_)
    exact post1 (v := .bool _) Try.results46 rfl (⟨by rw [Value.bool.injEq, Bool.eq_iff_iff, hb2, decide_eq_true_eq]; unfold Msg.right; omega, S.to_below⟩)
theorem l28plain (w0 : World) (m : Msg) (A1 : Option Addr) (a1 x1 : Nat) (A2 : Option Addr) (a2 x2 : Nat) (hm : m.ok) :
    Ret Try.prog 49 [.agg (cat (msgC m A1 a1 x1 A2 a2 x2)).toArray] w0 fun v w' => v = .bool (decide m.plain) ∧ Below w0.heap.size w0 w' := by
  refine enter Try.func49 rfl Try.ntmps49 (Nat.le_of_ble_eq_true rfl) ?_
  have S := St.init w0
  refine s_seq (s_plain ?_)
  refine p_does (d_boxA S rfl) rfl ?_
  rintro _ w ⟨b1, rfl, S⟩
  refine p_val (e_assign (v := .bool _) rfl) rfl ?_
  refine p_nil (x_then (s_seq ?_))
  refine s_cutK (ks := [some b1]) (ps := [Ex _ _]) [(1, .pointer _)] ⟨rfl, trivial⟩ S (fun keep ks ps f' w' => ∃ u y3 y4 y5, f' = upds u ((3, .pointer (some ⟨y3, 0, none⟩)) :: (4, .pointer (some ⟨y4, 0, none⟩)) :: (5, .pointer (some ⟨y5, 0, none⟩)) :: keep) ∧ St w0 w' [] [some y3, some y4, some y5, some b1] [Ex (cat [[.int .i64 m.n], [.int .i64 m.c], [.int .i64 m.p], bv m.h0, bv m.h1]).toArray 78, Ex (cat (jbC m.j A1 a1 x1)).toArray 82, Ex (cat (sgdC m.r A2 a2 x2)).toArray 54, (ps.getD 0 fun _ => True)]) ?_ ?_
  · refine s_drawTK (ks := [some b1]) (ps := [Ex _ _]) S (.sq [(true, 0), (true, 1), (true, 2), (true, 3), (true, 4), (true, 5)] (.fork 6 (.fork 7 (.sq [(false, 8), (false, 9), (false, 10)] .stop) (.fork 8 (.sq [(false, 7), (false, 9), (false, 10)] .stop) .none_)) (.fork 7 (.fork 6 (.sq [(false, 8), (false, 9), (false, 10)] .stop) (.fork 8 (.sq [(false, 6), (false, 9), (false, 10)] .stop) .none_)) (.fork 8 (.fork 6 (.sq [(false, 7), (false, 9), (false, 10)] .stop) (.fork 7 (.sq [(false, 6), (false, 9), (false, 10)] .stop) .none_)) .none_)))) [11] [11] mixed (by kernel_rfl) (by repeat (first | exact Calm.post _ _ _ | refine Calm.then ?_ _ | refine Calm.inB ?_ _)) (fun hS => ?_)
    have S := S.drew
    refine t_sq ?_
    refine q_val (fun w hS => e_field rfl Try.underlying84 rfl sz78 (by decide)) rfl hS ?_
    refine q_val (fun w hS => e_loadFS (i := 3) (n := 5) (off := 3) rfl ag78 sz78 (by decide) hS (j := 0) rfl rfl (by first | with_reducible assumption | (rw [bv_length]; with_reducible assumption) | (rw [List.size_toArray, bv_length]; with_reducible assumption) | (simp [cat, msgC, jbC, sgdC, hm.h0, hm.h1, hm.go, hm.sec, hm.j, hm.rh, hm.rb, zc78, zc82, zc54, length_zsum]; done) | (simp [cat, msgC, jbC, sgdC, hm.h0, hm.h1, hm.go, hm.sec, hm.j, hm.rh, hm.rb, zc78, zc82, zc54, length_zsum]; omega) | rfl) (by first | with_reducible assumption | (rw [bv_length]; with_reducible assumption) | (rw [List.size_toArray, bv_length]; with_reducible assumption) | (simp [cat, msgC, jbC, sgdC, hm.h0, hm.h1, hm.go, hm.sec, hm.j, hm.rh, hm.rb, zc78, zc82, zc54, length_zsum]; done) | (simp [cat, msgC, jbC, sgdC, hm.h0, hm.h1, hm.go, hm.sec, hm.j, hm.rh, hm.rb, zc78, zc82, zc54, length_zsum]; omega) | rfl)) rfl hS ?_
    refine q_val (fun w hS => e_field rfl Try.underlying84 rfl sz82 (by decide)) rfl hS ?_
    refine q_val (fun w hS => e_loadFS (i := 12) (n := 4) (off := 136) rfl ag82 sz82 (by decide) hS (j := 0) rfl rfl (by first | with_reducible assumption | (rw [bv_length]; with_reducible assumption) | (rw [List.size_toArray, bv_length]; with_reducible assumption) | (simp [cat, msgC, jbC, sgdC, hm.h0, hm.h1, hm.go, hm.sec, hm.j, hm.rh, hm.rb, zc78, zc82, zc54, length_zsum]; done) | (simp [cat, msgC, jbC, sgdC, hm.h0, hm.h1, hm.go, hm.sec, hm.j, hm.rh, hm.rb, zc78, zc82, zc54, length_zsum]; omega) | rfl) (by first | with_reducible assumption | (rw [bv_length]; with_reducible assumption) | (rw [List.size_toArray, bv_length]; with_reducible assumption) | (simp [cat, msgC, jbC, sgdC, hm.h0, hm.h1, hm.go, hm.sec, hm.j, hm.rh, hm.rb, zc78, zc82, zc54, length_zsum]; done) | (simp [cat, msgC, jbC, sgdC, hm.h0, hm.h1, hm.go, hm.sec, hm.j, hm.rh, hm.rb, zc78, zc82, zc54, length_zsum]; omega) | rfl)) rfl hS ?_
    refine q_val (fun w hS => e_field rfl Try.underlying84 rfl sz54 (by decide)) rfl hS ?_
    refine q_val (fun w hS => e_loadFS (i := 16) (n := 6) (off := 171) rfl ag54 sz54 (by decide) hS (j := 0) rfl rfl (by first | with_reducible assumption | (rw [bv_length]; with_reducible assumption) | (rw [List.size_toArray, bv_length]; with_reducible assumption) | (simp [cat, msgC, jbC, sgdC, hm.h0, hm.h1, hm.go, hm.sec, hm.j, hm.rh, hm.rb, zc78, zc82, zc54, length_zsum]; done) | (simp [cat, msgC, jbC, sgdC, hm.h0, hm.h1, hm.go, hm.sec, hm.j, hm.rh, hm.rb, zc78, zc82, zc54, length_zsum]; omega) | rfl) (by first | with_reducible assumption | (rw [bv_length]; with_reducible assumption) | (rw [List.size_toArray, bv_length]; with_reducible assumption) | (simp [cat, msgC, jbC, sgdC, hm.h0, hm.h1, hm.go, hm.sec, hm.j, hm.rh, hm.rb, zc78, zc82, zc54, length_zsum]; done) | (simp [cat, msgC, jbC, sgdC, hm.h0, hm.h1, hm.go, hm.sec, hm.j, hm.rh, hm.rb, zc78, zc82, zc54, length_zsum]; omega) | rfl)) rfl hS ?_
    refine q_nil ?_
    refine t_fork ?_ ?_
    · refine q_does (d_allocA S zs78) rfl ?_
      rintro _ w ⟨y3, rfl, S⟩
      have hS := S.pk [1] rfl
      refine ⟨hS, ?_⟩
      refine q_nil ?_
      refine t_fork ?_ ?_
      · refine q_does (d_allocA S zs82) rfl ?_
        rintro _ w ⟨y4, rfl, S⟩
        have hS := S.pk [2] rfl
        refine ⟨hS, ?_⟩
        refine q_nil ?_
        refine t_sq ?_
        refine q_does (d_allocA S zs54) rfl ?_
        rintro _ w ⟨y5, rfl, S⟩
        have hS := S.pk [3] rfl
        refine ⟨hS, ?_⟩
        refine q_does (d_storeW S 2 rfl rfl (by first | exact bv_one _ | exact sv_one _ | exact iv_one _ | with_reducible assumption | (refine One.mem ?_; repeat (first | exact One.bv _ | exact One.sv _ | exact One.iv _ | exact One.nil | exact One.cat0 | refine One.cat1 ?_ ?_ | refine One.cons rfl ?_ | refine One.append ?_ ?_))) sz78 (by first | with_reducible assumption | (rw [bv_length]; with_reducible assumption) | (rw [List.size_toArray, bv_length]; with_reducible assumption) | (simp [cat, msgC, jbC, sgdC, hm.h0, hm.h1, hm.go, hm.sec, hm.j, hm.rh, hm.rb, zc78, zc82, zc54, length_zsum]; done) | (simp [cat, msgC, jbC, sgdC, hm.h0, hm.h1, hm.go, hm.sec, hm.j, hm.rh, hm.rb, zc78, zc82, zc54, length_zsum]; omega) | rfl) rfl rfl (by first | with_reducible assumption | (rw [bv_length]; with_reducible assumption) | (rw [List.size_toArray, bv_length]; with_reducible assumption) | (simp [cat, msgC, jbC, sgdC, hm.h0, hm.h1, hm.go, hm.sec, hm.j, hm.rh, hm.rb, zc78, zc82, zc54, length_zsum]; done) | (simp [cat, msgC, jbC, sgdC, hm.h0, hm.h1, hm.go, hm.sec, hm.j, hm.rh, hm.rb, zc78, zc82, zc54, length_zsum]; omega) | rfl)) rfl ?_
        intro _ w S
        have hS := S.pk [3] rfl
        refine ⟨hS, ?_⟩
        refine q_does (d_storeW S 1 rfl rfl (by first | exact bv_one _ | exact sv_one _ | exact iv_one _ | with_reducible assumption | (refine One.mem ?_; repeat (first | exact One.bv _ | exact One.sv _ | exact One.iv _ | exact One.nil | exact One.cat0 | refine One.cat1 ?_ ?_ | refine One.cons rfl ?_ | refine One.append ?_ ?_))) sz82 (by first | with_reducible assumption | (rw [bv_length]; with_reducible assumption) | (rw [List.size_toArray, bv_length]; with_reducible assumption) | (simp [cat, msgC, jbC, sgdC, hm.h0, hm.h1, hm.go, hm.sec, hm.j, hm.rh, hm.rb, zc78, zc82, zc54, length_zsum]; done) | (simp [cat, msgC, jbC, sgdC, hm.h0, hm.h1, hm.go, hm.sec, hm.j, hm.rh, hm.rb, zc78, zc82, zc54, length_zsum]; omega) | rfl) rfl rfl (by first | with_reducible assumption | (rw [bv_length]; with_reducible assumption) | (rw [List.size_toArray, bv_length]; with_reducible assumption) | (simp [cat, msgC, jbC, sgdC, hm.h0, hm.h1, hm.go, hm.sec, hm.j, hm.rh, hm.rb, zc78, zc82, zc54, length_zsum]; done) | (simp [cat, msgC, jbC, sgdC, hm.h0, hm.h1, hm.go, hm.sec, hm.j, hm.rh, hm.rb, zc78, zc82, zc54, length_zsum]; omega) | rfl)) rfl ?_
        intro _ w S
        have hS := S.pk [3] rfl
        refine ⟨hS, ?_⟩
        refine q_nil ?_
        refine t_stop ?_
        refine p_does (d_storeW S 0 rfl rfl (by first | exact bv_one _ | exact sv_one _ | exact iv_one _ | with_reducible assumption | (refine One.mem ?_; repeat (first | exact One.bv _ | exact One.sv _ | exact One.iv _ | exact One.nil | exact One.cat0 | refine One.cat1 ?_ ?_ | refine One.cons rfl ?_ | refine One.append ?_ ?_))) sz54 (by first | with_reducible assumption | (rw [bv_length]; with_reducible assumption) | (rw [List.size_toArray, bv_length]; with_reducible assumption) | (simp [cat, msgC, jbC, sgdC, hm.h0, hm.h1, hm.go, hm.sec, hm.j, hm.rh, hm.rb, zc78, zc82, zc54, length_zsum]; done) | (simp [cat, msgC, jbC, sgdC, hm.h0, hm.h1, hm.go, hm.sec, hm.j, hm.rh, hm.rb, zc78, zc82, zc54, length_zsum]; omega) | rfl) rfl rfl (by first | with_reducible assumption | (rw [bv_length]; with_reducible assumption) | (rw [List.size_toArray, bv_length]; with_reducible assumption) | (simp [cat, msgC, jbC, sgdC, hm.h0, hm.h1, hm.go, hm.sec, hm.j, hm.rh, hm.rb, zc78, zc82, zc54, length_zsum]; done) | (simp [cat, msgC, jbC, sgdC, hm.h0, hm.h1, hm.go, hm.sec, hm.j, hm.rh, hm.rb, zc78, zc82, zc54, length_zsum]; omega) | rfl)) rfl ?_
        intro _ w S
        exact p_nil (x_then ⟨_, rfl, _, _, _, _, upds_eq ⟨rfl, rfl, rfl, rfl, trivial⟩, S.pk [2, 1, 0, 3] rfl⟩)
      · refine t_fork ?_ ?_
        · refine q_does (d_allocA S zs54) rfl ?_
          rintro _ w ⟨y5, rfl, S⟩
          have hS := S.pk [2] rfl
          refine ⟨hS, ?_⟩
          refine q_nil ?_
          refine t_sq ?_
          refine q_does (d_allocA S zs82) rfl ?_
          rintro _ w ⟨y4, rfl, S⟩
          have hS := S.pk [3] rfl
          refine ⟨hS, ?_⟩
          refine q_does (d_storeW S 2 rfl rfl (by first | exact bv_one _ | exact sv_one _ | exact iv_one _ | with_reducible assumption | (refine One.mem ?_; repeat (first | exact One.bv _ | exact One.sv _ | exact One.iv _ | exact One.nil | exact One.cat0 | refine One.cat1 ?_ ?_ | refine One.cons rfl ?_ | refine One.append ?_ ?_))) sz78 (by first | with_reducible assumption | (rw [bv_length]; with_reducible assumption) | (rw [List.size_toArray, bv_length]; with_reducible assumption) | (simp [cat, msgC, jbC, sgdC, hm.h0, hm.h1, hm.go, hm.sec, hm.j, hm.rh, hm.rb, zc78, zc82, zc54, length_zsum]; done) | (simp [cat, msgC, jbC, sgdC, hm.h0, hm.h1, hm.go, hm.sec, hm.j, hm.rh, hm.rb, zc78, zc82, zc54, length_zsum]; omega) | rfl) rfl rfl (by first | with_reducible assumption | (rw [bv_length]; with_reducible assumption) | (rw [List.size_toArray, bv_length]; with_reducible assumption) | (simp [cat, msgC, jbC, sgdC, hm.h0, hm.h1, hm.go, hm.sec, hm.j, hm.rh, hm.rb, zc78, zc82, zc54, length_zsum]; done) | (simp [cat, msgC, jbC, sgdC, hm.h0, hm.h1, hm.go, hm.sec, hm.j, hm.rh, hm.rb, zc78, zc82, zc54, length_zsum]; omega) | rfl)) rfl ?_
          intro _ w S
          have hS := S.pk [3] rfl
          refine ⟨hS, ?_⟩
          refine q_does (d_storeW S 0 rfl rfl (by first | exact bv_one _ | exact sv_one _ | exact iv_one _ | with_reducible assumption | (refine One.mem ?_; repeat (first | exact One.bv _ | exact One.sv _ | exact One.iv _ | exact One.nil | exact One.cat0 | refine One.cat1 ?_ ?_ | refine One.cons rfl ?_ | refine One.append ?_ ?_))) sz82 (by first | with_reducible assumption | (rw [bv_length]; with_reducible assumption) | (rw [List.size_toArray, bv_length]; with_reducible assumption) | (simp [cat, msgC, jbC, sgdC, hm.h0, hm.h1, hm.go, hm.sec, hm.j, hm.rh, hm.rb, zc78, zc82, zc54, length_zsum]; done) | (simp [cat, msgC, jbC, sgdC, hm.h0, hm.h1, hm.go, hm.sec, hm.j, hm.rh, hm.rb, zc78, zc82, zc54, length_zsum]; omega) | rfl) rfl rfl (by first | with_reducible assumption | (rw [bv_length]; with_reducible assumption) | (rw [List.size_toArray, bv_length]; with_reducible assumption) | (simp [cat, msgC, jbC, sgdC, hm.h0, hm.h1, hm.go, hm.sec, hm.j, hm.rh, hm.rb, zc78, zc82, zc54, length_zsum]; done) | (simp [cat, msgC, jbC, sgdC, hm.h0, hm.h1, hm.go, hm.sec, hm.j, hm.rh, hm.rb, zc78, zc82, zc54, length_zsum]; omega) | rfl)) rfl ?_
          intro _ w S
          have hS := S.pk [3] rfl
          refine ⟨hS, ?_⟩
          refine q_nil ?_
          refine t_stop ?_
          refine p_does (d_storeW S 1 rfl rfl (by first | exact bv_one _ | exact sv_one _ | exact iv_one _ | with_reducible assumption | (refine One.mem ?_; repeat (first | exact One.bv _ | exact One.sv _ | exact One.iv _ | exact One.nil | exact One.cat0 | refine One.cat1 ?_ ?_ | refine One.cons rfl ?_ | refine One.append ?_ ?_))) sz54 (by first | with_reducible assumption | (rw [bv_length]; with_reducible assumption) | (rw [List.size_toArray, bv_length]; with_reducible assumption) | (simp [cat, msgC, jbC, sgdC, hm.h0, hm.h1, hm.go, hm.sec, hm.j, hm.rh, hm.rb, zc78, zc82, zc54, length_zsum]; done) | (simp [cat, msgC, jbC, sgdC, hm.h0, hm.h1, hm.go, hm.sec, hm.j, hm.rh, hm.rb, zc78, zc82, zc54, length_zsum]; omega) | rfl) rfl rfl (by first | with_reducible assumption | (rw [bv_length]; with_reducible assumption) | (rw [List.size_toArray, bv_length]; with_reducible assumption) | (simp [cat, msgC, jbC, sgdC, hm.h0, hm.h1, hm.go, hm.sec, hm.j, hm.rh, hm.rb, zc78, zc82, zc54, length_zsum]; done) | (simp [cat, msgC, jbC, sgdC, hm.h0, hm.h1, hm.go, hm.sec, hm.j, hm.rh, hm.rb, zc78, zc82, zc54, length_zsum]; omega) | rfl)) rfl ?_
          intro _ w S
          exact p_nil (x_then ⟨_, rfl, _, _, _, _, upds_eq ⟨rfl, rfl, rfl, rfl, trivial⟩, S.pk [2, 0, 1, 3] rfl⟩)
        · exact t_none
    · refine t_fork ?_ ?_
      · refine q_does (d_allocA S zs82) rfl ?_
        rintro _ w ⟨y4, rfl, S⟩
        have hS := S.pk [1] rfl
        refine ⟨hS, ?_⟩
        refine q_nil ?_
        refine t_fork ?_ ?_
        · refine q_does (d_allocA S zs78) rfl ?_
          rintro _ w ⟨y3, rfl, S⟩
          have hS := S.pk [2] rfl
          refine ⟨hS, ?_⟩
          refine q_nil ?_
          refine t_sq ?_
          refine q_does (d_allocA S zs54) rfl ?_
          rintro _ w ⟨y5, rfl, S⟩
          have hS := S.pk [3] rfl
          refine ⟨hS, ?_⟩
          refine q_does (d_storeW S 1 rfl rfl (by first | exact bv_one _ | exact sv_one _ | exact iv_one _ | with_reducible assumption | (refine One.mem ?_; repeat (first | exact One.bv _ | exact One.sv _ | exact One.iv _ | exact One.nil | exact One.cat0 | refine One.cat1 ?_ ?_ | refine One.cons rfl ?_ | refine One.append ?_ ?_))) sz78 (by first | with_reducible assumption | (rw [bv_length]; with_reducible assumption) | (rw [List.size_toArray, bv_length]; with_reducible assumption) | (simp [cat, msgC, jbC, sgdC, hm.h0, hm.h1, hm.go, hm.sec, hm.j, hm.rh, hm.rb, zc78, zc82, zc54, length_zsum]; done) | (simp [cat, msgC, jbC, sgdC, hm.h0, hm.h1, hm.go, hm.sec, hm.j, hm.rh, hm.rb, zc78, zc82, zc54, length_zsum]; omega) | rfl) rfl rfl (by first | with_reducible assumption | (rw [bv_length]; with_reducible assumption) | (rw [List.size_toArray, bv_length]; with_reducible assumption) | (simp [cat, msgC, jbC, sgdC, hm.h0, hm.h1, hm.go, hm.sec, hm.j, hm.rh, hm.rb, zc78, zc82, zc54, length_zsum]; done) | (simp [cat, msgC, jbC, sgdC, hm.h0, hm.h1, hm.go, hm.sec, hm.j, hm.rh, hm.rb, zc78, zc82, zc54, length_zsum]; omega) | rfl)) rfl ?_
          intro _ w S
          have hS := S.pk [3] rfl
          refine ⟨hS, ?_⟩
          refine q_does (d_storeW S 2 rfl rfl (by first | exact bv_one _ | exact sv_one _ | exact iv_one _ | with_reducible assumption | (refine One.mem ?_; repeat (first | exact One.bv _ | exact One.sv _ | exact One.iv _ | exact One.nil | exact One.cat0 | refine One.cat1 ?_ ?_ | refine One.cons rfl ?_ | refine One.append ?_ ?_))) sz82 (by first | with_reducible assumption | (rw [bv_length]; with_reducible assumption) | (rw [List.size_toArray, bv_length]; with_reducible assumption) | (simp [cat, msgC, jbC, sgdC, hm.h0, hm.h1, hm.go, hm.sec, hm.j, hm.rh, hm.rb, zc78, zc82, zc54, length_zsum]; done) | (simp [cat, msgC, jbC, sgdC, hm.h0, hm.h1, hm.go, hm.sec, hm.j, hm.rh, hm.rb, zc78, zc82, zc54, length_zsum]; omega) | rfl) rfl rfl (by first | with_reducible assumption | (rw [bv_length]; with_reducible assumption) | (rw [List.size_toArray, bv_length]; with_reducible assumption) | (simp [cat, msgC, jbC, sgdC, hm.h0, hm.h1, hm.go, hm.sec, hm.j, hm.rh, hm.rb, zc78, zc82, zc54, length_zsum]; done) | (simp [cat, msgC, jbC, sgdC, hm.h0, hm.h1, hm.go, hm.sec, hm.j, hm.rh, hm.rb, zc78, zc82, zc54, length_zsum]; omega) | rfl)) rfl ?_
          intro _ w S
          have hS := S.pk [3] rfl
          refine ⟨hS, ?_⟩
          refine q_nil ?_
          refine t_stop ?_
          refine p_does (d_storeW S 0 rfl rfl (by first | exact bv_one _ | exact sv_one _ | exact iv_one _ | with_reducible assumption | (refine One.mem ?_; repeat (first | exact One.bv _ | exact One.sv _ | exact One.iv _ | exact One.nil | exact One.cat0 | refine One.cat1 ?_ ?_ | refine One.cons rfl ?_ | refine One.append ?_ ?_))) sz54 (by first | with_reducible assumption | (rw [bv_length]; with_reducible assumption) | (rw [List.size_toArray, bv_length]; with_reducible assumption) | (simp [cat, msgC, jbC, sgdC, hm.h0, hm.h1, hm.go, hm.sec, hm.j, hm.rh, hm.rb, zc78, zc82, zc54, length_zsum]; done) | (simp [cat, msgC, jbC, sgdC, hm.h0, hm.h1, hm.go, hm.sec, hm.j, hm.rh, hm.rb, zc78, zc82, zc54, length_zsum]; omega) | rfl) rfl rfl (by first | with_reducible assumption | (rw [bv_length]; with_reducible assumption) | (rw [List.size_toArray, bv_length]; with_reducible assumption) | (simp [cat, msgC, jbC, sgdC, hm.h0, hm.h1, hm.go, hm.sec, hm.j, hm.rh, hm.rb, zc78, zc82, zc54, length_zsum]; done) | (simp [cat, msgC, jbC, sgdC, hm.h0, hm.h1, hm.go, hm.sec, hm.j, hm.rh, hm.rb, zc78, zc82, zc54, length_zsum]; omega) | rfl)) rfl ?_
          intro _ w S
          exact p_nil (x_then ⟨_, rfl, _, _, _, _, upds_eq ⟨rfl, rfl, rfl, rfl, trivial⟩, S.pk [1, 2, 0, 3] rfl⟩)
        · refine t_fork ?_ ?_
          · refine q_does (d_allocA S zs54) rfl ?_
            rintro _ w ⟨y5, rfl, S⟩
            have hS := S.pk [2] rfl
            refine ⟨hS, ?_⟩
            refine q_nil ?_
            refine t_sq ?_
            refine q_does (d_allocA S zs78) rfl ?_
            rintro _ w ⟨y3, rfl, S⟩
            have hS := S.pk [3] rfl
            refine ⟨hS, ?_⟩
            refine q_does (d_storeW S 0 rfl rfl (by first | exact bv_one _ | exact sv_one _ | exact iv_one _ | with_reducible assumption | (refine One.mem ?_; repeat (first | exact One.bv _ | exact One.sv _ | exact One.iv _ | exact One.nil | exact One.cat0 | refine One.cat1 ?_ ?_ | refine One.cons rfl ?_ | refine One.append ?_ ?_))) sz78 (by first | with_reducible assumption | (rw [bv_length]; with_reducible assumption) | (rw [List.size_toArray, bv_length]; with_reducible assumption) | (simp [cat, msgC, jbC, sgdC, hm.h0, hm.h1, hm.go, hm.sec, hm.j, hm.rh, hm.rb, zc78, zc82, zc54, length_zsum]; done) | (simp [cat, msgC, jbC, sgdC, hm.h0, hm.h1, hm.go, hm.sec, hm.j, hm.rh, hm.rb, zc78, zc82, zc54, length_zsum]; omega) | rfl) rfl rfl (by first | with_reducible assumption | (rw [bv_length]; with_reducible assumption) | (rw [List.size_toArray, bv_length]; with_reducible assumption) | (simp [cat, msgC, jbC, sgdC, hm.h0, hm.h1, hm.go, hm.sec, hm.j, hm.rh, hm.rb, zc78, zc82, zc54, length_zsum]; done) | (simp [cat, msgC, jbC, sgdC, hm.h0, hm.h1, hm.go, hm.sec, hm.j, hm.rh, hm.rb, zc78, zc82, zc54, length_zsum]; omega) | rfl)) rfl ?_
            intro _ w S
            have hS := S.pk [3] rfl
            refine ⟨hS, ?_⟩
            refine q_does (d_storeW S 2 rfl rfl (by first | exact bv_one _ | exact sv_one _ | exact iv_one _ | with_reducible assumption | (refine One.mem ?_; repeat (first | exact One.bv _ | exact One.sv _ | exact One.iv _ | exact One.nil | exact One.cat0 | refine One.cat1 ?_ ?_ | refine One.cons rfl ?_ | refine One.append ?_ ?_))) sz82 (by first | with_reducible assumption | (rw [bv_length]; with_reducible assumption) | (rw [List.size_toArray, bv_length]; with_reducible assumption) | (simp [cat, msgC, jbC, sgdC, hm.h0, hm.h1, hm.go, hm.sec, hm.j, hm.rh, hm.rb, zc78, zc82, zc54, length_zsum]; done) | (simp [cat, msgC, jbC, sgdC, hm.h0, hm.h1, hm.go, hm.sec, hm.j, hm.rh, hm.rb, zc78, zc82, zc54, length_zsum]; omega) | rfl) rfl rfl (by first | with_reducible assumption | (rw [bv_length]; with_reducible assumption) | (rw [List.size_toArray, bv_length]; with_reducible assumption) | (simp [cat, msgC, jbC, sgdC, hm.h0, hm.h1, hm.go, hm.sec, hm.j, hm.rh, hm.rb, zc78, zc82, zc54, length_zsum]; done) | (simp [cat, msgC, jbC, sgdC, hm.h0, hm.h1, hm.go, hm.sec, hm.j, hm.rh, hm.rb, zc78, zc82, zc54, length_zsum]; omega) | rfl)) rfl ?_
            intro _ w S
            have hS := S.pk [3] rfl
            refine ⟨hS, ?_⟩
            refine q_nil ?_
            refine t_stop ?_
            refine p_does (d_storeW S 1 rfl rfl (by first | exact bv_one _ | exact sv_one _ | exact iv_one _ | with_reducible assumption | (refine One.mem ?_; repeat (first | exact One.bv _ | exact One.sv _ | exact One.iv _ | exact One.nil | exact One.cat0 | refine One.cat1 ?_ ?_ | refine One.cons rfl ?_ | refine One.append ?_ ?_))) sz54 (by first | with_reducible assumption | (rw [bv_length]; with_reducible assumption) | (rw [List.size_toArray, bv_length]; with_reducible assumption) | (simp [cat, msgC, jbC, sgdC, hm.h0, hm.h1, hm.go, hm.sec, hm.j, hm.rh, hm.rb, zc78, zc82, zc54, length_zsum]; done) | (simp [cat, msgC, jbC, sgdC, hm.h0, hm.h1, hm.go, hm.sec, hm.j, hm.rh, hm.rb, zc78, zc82, zc54, length_zsum]; omega) | rfl) rfl rfl (by first | with_reducible assumption | (rw [bv_length]; with_reducible assumption) | (rw [List.size_toArray, bv_length]; with_reducible assumption) | (simp [cat, msgC, jbC, sgdC, hm.h0, hm.h1, hm.go, hm.sec, hm.j, hm.rh, hm.rb, zc78, zc82, zc54, length_zsum]; done) | (simp [cat, msgC, jbC, sgdC, hm.h0, hm.h1, hm.go, hm.sec, hm.j, hm.rh, hm.rb, zc78, zc82, zc54, length_zsum]; omega) | rfl)) rfl ?_
            intro _ w S
            exact p_nil (x_then ⟨_, rfl, _, _, _, _, upds_eq ⟨rfl, rfl, rfl, rfl, trivial⟩, S.pk [0, 2, 1, 3] rfl⟩)
          · exact t_none
      · refine t_fork ?_ ?_
        · refine q_does (d_allocA S zs54) rfl ?_
          rintro _ w ⟨y5, rfl, S⟩
          have hS := S.pk [1] rfl
          refine ⟨hS, ?_⟩
          refine q_nil ?_
          refine t_fork ?_ ?_
          · refine q_does (d_allocA S zs78) rfl ?_
            rintro _ w ⟨y3, rfl, S⟩
            have hS := S.pk [2] rfl
            refine ⟨hS, ?_⟩
            refine q_nil ?_
            refine t_sq ?_
            refine q_does (d_allocA S zs82) rfl ?_
            rintro _ w ⟨y4, rfl, S⟩
            have hS := S.pk [3] rfl
            refine ⟨hS, ?_⟩
            refine q_does (d_storeW S 1 rfl rfl (by first | exact bv_one _ | exact sv_one _ | exact iv_one _ | with_reducible assumption | (refine One.mem ?_; repeat (first | exact One.bv _ | exact One.sv _ | exact One.iv _ | exact One.nil | exact One.cat0 | refine One.cat1 ?_ ?_ | refine One.cons rfl ?_ | refine One.append ?_ ?_))) sz78 (by first | with_reducible assumption | (rw [bv_length]; with_reducible assumption) | (rw [List.size_toArray, bv_length]; with_reducible assumption) | (simp [cat, msgC, jbC, sgdC, hm.h0, hm.h1, hm.go, hm.sec, hm.j, hm.rh, hm.rb, zc78, zc82, zc54, length_zsum]; done) | (simp [cat, msgC, jbC, sgdC, hm.h0, hm.h1, hm.go, hm.sec, hm.j, hm.rh, hm.rb, zc78, zc82, zc54, length_zsum]; omega) | rfl) rfl rfl (by first | with_reducible assumption | (rw [bv_length]; with_reducible assumption) | (rw [List.size_toArray, bv_length]; with_reducible assumption) | (simp [cat, msgC, jbC, sgdC, hm.h0, hm.h1, hm.go, hm.sec, hm.j, hm.rh, hm.rb, zc78, zc82, zc54, length_zsum]; done) | (simp [cat, msgC, jbC, sgdC, hm.h0, hm.h1, hm.go, hm.sec, hm.j, hm.rh, hm.rb, zc78, zc82, zc54, length_zsum]; omega) | rfl)) rfl ?_
            intro _ w S
            have hS := S.pk [3] rfl
            refine ⟨hS, ?_⟩
            refine q_does (d_storeW S 0 rfl rfl (by first | exact bv_one _ | exact sv_one _ | exact iv_one _ | with_reducible assumption | (refine One.mem ?_; repeat (first | exact One.bv _ | exact One.sv _ | exact One.iv _ | exact One.nil | exact One.cat0 | refine One.cat1 ?_ ?_ | refine One.cons rfl ?_ | refine One.append ?_ ?_))) sz82 (by first | with_reducible assumption | (rw [bv_length]; with_reducible assumption) | (rw [List.size_toArray, bv_length]; with_reducible assumption) | (simp [cat, msgC, jbC, sgdC, hm.h0, hm.h1, hm.go, hm.sec, hm.j, hm.rh, hm.rb, zc78, zc82, zc54, length_zsum]; done) | (simp [cat, msgC, jbC, sgdC, hm.h0, hm.h1, hm.go, hm.sec, hm.j, hm.rh, hm.rb, zc78, zc82, zc54, length_zsum]; omega) | rfl) rfl rfl (by first | with_reducible assumption | (rw [bv_length]; with_reducible assumption) | (rw [List.size_toArray, bv_length]; with_reducible assumption) | (simp [cat, msgC, jbC, sgdC, hm.h0, hm.h1, hm.go, hm.sec, hm.j, hm.rh, hm.rb, zc78, zc82, zc54, length_zsum]; done) | (simp [cat, msgC, jbC, sgdC, hm.h0, hm.h1, hm.go, hm.sec, hm.j, hm.rh, hm.rb, zc78, zc82, zc54, length_zsum]; omega) | rfl)) rfl ?_
            intro _ w S
            have hS := S.pk [3] rfl
            refine ⟨hS, ?_⟩
            refine q_nil ?_
            refine t_stop ?_
            refine p_does (d_storeW S 2 rfl rfl (by first | exact bv_one _ | exact sv_one _ | exact iv_one _ | with_reducible assumption | (refine One.mem ?_; repeat (first | exact One.bv _ | exact One.sv _ | exact One.iv _ | exact One.nil | exact One.cat0 | refine One.cat1 ?_ ?_ | refine One.cons rfl ?_ | refine One.append ?_ ?_))) sz54 (by first | with_reducible assumption | (rw [bv_length]; with_reducible assumption) | (rw [List.size_toArray, bv_length]; with_reducible assumption) | (simp [cat, msgC, jbC, sgdC, hm.h0, hm.h1, hm.go, hm.sec, hm.j, hm.rh, hm.rb, zc78, zc82, zc54, length_zsum]; done) | (simp [cat, msgC, jbC, sgdC, hm.h0, hm.h1, hm.go, hm.sec, hm.j, hm.rh, hm.rb, zc78, zc82, zc54, length_zsum]; omega) | rfl) rfl rfl (by first | with_reducible assumption | (rw [bv_length]; with_reducible assumption) | (rw [List.size_toArray, bv_length]; with_reducible assumption) | (simp [cat, msgC, jbC, sgdC, hm.h0, hm.h1, hm.go, hm.sec, hm.j, hm.rh, hm.rb, zc78, zc82, zc54, length_zsum]; done) | (simp [cat, msgC, jbC, sgdC, hm.h0, hm.h1, hm.go, hm.sec, hm.j, hm.rh, hm.rb, zc78, zc82, zc54, length_zsum]; omega) | rfl)) rfl ?_
            intro _ w S
            exact p_nil (x_then ⟨_, rfl, _, _, _, _, upds_eq ⟨rfl, rfl, rfl, rfl, trivial⟩, S.pk [1, 0, 2, 3] rfl⟩)
          · refine t_fork ?_ ?_
            · refine q_does (d_allocA S zs82) rfl ?_
              rintro _ w ⟨y4, rfl, S⟩
              have hS := S.pk [2] rfl
              refine ⟨hS, ?_⟩
              refine q_nil ?_
              refine t_sq ?_
              refine q_does (d_allocA S zs78) rfl ?_
              rintro _ w ⟨y3, rfl, S⟩
              have hS := S.pk [3] rfl
              refine ⟨hS, ?_⟩
              refine q_does (d_storeW S 0 rfl rfl (by first | exact bv_one _ | exact sv_one _ | exact iv_one _ | with_reducible assumption | (refine One.mem ?_; repeat (first | exact One.bv _ | exact One.sv _ | exact One.iv _ | exact One.nil | exact One.cat0 | refine One.cat1 ?_ ?_ | refine One.cons rfl ?_ | refine One.append ?_ ?_))) sz78 (by first | with_reducible assumption | (rw [bv_length]; with_reducible assumption) | (rw [List.size_toArray, bv_length]; with_reducible assumption) | (simp [cat, msgC, jbC, sgdC, hm.h0, hm.h1, hm.go, hm.sec, hm.j, hm.rh, hm.rb, zc78, zc82, zc54, length_zsum]; done) | (simp [cat, msgC, jbC, sgdC, hm.h0, hm.h1, hm.go, hm.sec, hm.j, hm.rh, hm.rb, zc78, zc82, zc54, length_zsum]; omega) | rfl) rfl rfl (by first | with_reducible assumption | (rw [bv_length]; with_reducible assumption) | (rw [List.size_toArray, bv_length]; with_reducible assumption) | (simp [cat, msgC, jbC, sgdC, hm.h0, hm.h1, hm.go, hm.sec, hm.j, hm.rh, hm.rb, zc78, zc82, zc54, length_zsum]; done) | (simp [cat, msgC, jbC, sgdC, hm.h0, hm.h1, hm.go, hm.sec, hm.j, hm.rh, hm.rb, zc78, zc82, zc54, length_zsum]; omega) | rfl)) rfl ?_
              intro _ w S
              have hS := S.pk [3] rfl
              refine ⟨hS, ?_⟩
              refine q_does (d_storeW S 1 rfl rfl (by first | exact bv_one _ | exact sv_one _ | exact iv_one _ | with_reducible assumption | (refine One.mem ?_; repeat (first | exact One.bv _ | exact One.sv _ | exact One.iv _ | exact One.nil | exact One.cat0 | refine One.cat1 ?_ ?_ | refine One.cons rfl ?_ | refine One.append ?_ ?_))) sz82 (by first | with_reducible assumption | (rw [bv_length]; with_reducible assumption) | (rw [List.size_toArray, bv_length]; with_reducible assumption) | (simp [cat, msgC, jbC, sgdC, hm.h0, hm.h1, hm.go, hm.sec, hm.j, hm.rh, hm.rb, zc78, zc82, zc54, length_zsum]; done) | (simp [cat, msgC, jbC, sgdC, hm.h0, hm.h1, hm.go, hm.sec, hm.j, hm.rh, hm.rb, zc78, zc82, zc54, length_zsum]; omega) | rfl) rfl rfl (by first | with_reducible assumption | (rw [bv_length]; with_reducible assumption) | (rw [List.size_toArray, bv_length]; with_reducible assumption) | (simp [cat, msgC, jbC, sgdC, hm.h0, hm.h1, hm.go, hm.sec, hm.j, hm.rh, hm.rb, zc78, zc82, zc54, length_zsum]; done) | (simp [cat, msgC, jbC, sgdC, hm.h0, hm.h1, hm.go, hm.sec, hm.j, hm.rh, hm.rb, zc78, zc82, zc54, length_zsum]; omega) | rfl)) rfl ?_
              intro _ w S
              have hS := S.pk [3] rfl
              refine ⟨hS, ?_⟩
              refine q_nil ?_
              refine t_stop ?_
              refine p_does (d_storeW S 2 rfl rfl (by first | exact bv_one _ | exact sv_one _ | exact iv_one _ | with_reducible assumption | (refine One.mem ?_; repeat (first | exact One.bv _ | exact One.sv _ | exact One.iv _ | exact One.nil | exact One.cat0 | refine One.cat1 ?_ ?_ | refine One.cons rfl ?_ | refine One.append ?_ ?_))) sz54 (by first | with_reducible assumption | (rw [bv_length]; with_reducible assumption) | (rw [List.size_toArray, bv_length]; with_reducible assumption) | (simp [cat, msgC, jbC, sgdC, hm.h0, hm.h1, hm.go, hm.sec, hm.j, hm.rh, hm.rb, zc78, zc82, zc54, length_zsum]; done) | (simp [cat, msgC, jbC, sgdC, hm.h0, hm.h1, hm.go, hm.sec, hm.j, hm.rh, hm.rb, zc78, zc82, zc54, length_zsum]; omega) | rfl) rfl rfl (by first | with_reducible assumption | (rw [bv_length]; with_reducible assumption) | (rw [List.size_toArray, bv_length]; with_reducible assumption) | (simp [cat, msgC, jbC, sgdC, hm.h0, hm.h1, hm.go, hm.sec, hm.j, hm.rh, hm.rb, zc78, zc82, zc54, length_zsum]; done) | (simp [cat, msgC, jbC, sgdC, hm.h0, hm.h1, hm.go, hm.sec, hm.j, hm.rh, hm.rb, zc78, zc82, zc54, length_zsum]; omega) | rfl)) rfl ?_
              intro _ w S
              exact p_nil (x_then ⟨_, rfl, _, _, _, _, upds_eq ⟨rfl, rfl, rfl, rfl, trivial⟩, S.pk [0, 1, 2, 3] rfl⟩)
            · exact t_none
        · exact t_none
  · rintro f w ⟨u, y3, y4, y5, rfl, S⟩
    refine x_then (s_seq ?_)
    refine s_cutK (ks := [some y3, some y4, some y5, some b1]) (ps := [Ex _ _, Ex _ _, Ex _ _, Ex _ _]) [(4, .pointer _), (5, .pointer _)] ⟨rfl, rfl, trivial⟩ S (fun keep ks ps f' w' => ∃ u bb, f' = upds u ((6, .bool bb) :: keep) ∧ (bb = true ↔ (((((((((((0 : Int) ≤ m.n) ∧ (m.n ≤ (1048576 : Int))) ∧ ((0 : Int) ≤ m.c)) ∧ (m.c ≤ (1125899906842624 : Int))) ∧ ((0 : Int) ≤ m.p)) ∧ (m.p ≤ (1125899906842624 : Int))) ∧ ((0 : Int) ≤ m.gk)) ∧ (m.gk < (256 : Int))) ∧ ((0 : Int) ≤ m.m)) ∧ (m.m ≤ (1048576 : Int)))) ∧ St w0 w' [] ks ps) ?_ ?_
    · refine s_plain ?_
      refine p_val (e_field rfl Try.underlying78 rfl sz3 (by decide)) rfl ?_
      refine p_val (e_loadF1 (i := 0) (off := 0) rfl ag3 S (j := 0) rfl rfl rfl (by first | with_reducible assumption | (rw [bv_length]; with_reducible assumption) | (rw [List.size_toArray, bv_length]; with_reducible assumption) | (simp [cat, msgC, jbC, sgdC, hm.h0, hm.h1, hm.go, hm.sec, hm.j, hm.rh, hm.rb, zc78, zc82, zc54, length_zsum]; done) | (simp [cat, msgC, jbC, sgdC, hm.h0, hm.h1, hm.go, hm.sec, hm.j, hm.rh, hm.rb, zc78, zc82, zc54, length_zsum]; omega) | rfl)) rfl ?_
      refine p_valB (e_geq rfl rfl) rfl (fun hg15 => ?_) (fun hg15 => ?_)
      · refine p_val (e_move (v := .bool _) rfl) rfl ?_
        refine pg_val rfl rfl rfl rfl rfl (e_field rfl Try.underlying78 rfl sz3 (by decide)) ?_
        refine pg_val rfl rfl rfl rfl rfl (e_loadF1 (i := 0) (off := 0) rfl ag3 S (j := 0) rfl rfl rfl (by first | with_reducible assumption | (rw [bv_length]; with_reducible assumption) | (rw [List.size_toArray, bv_length]; with_reducible assumption) | (simp [cat, msgC, jbC, sgdC, hm.h0, hm.h1, hm.go, hm.sec, hm.j, hm.rh, hm.rb, zc78, zc82, zc54, length_zsum]; done) | (simp [cat, msgC, jbC, sgdC, hm.h0, hm.h1, hm.go, hm.sec, hm.j, hm.rh, hm.rb, zc78, zc82, zc54, length_zsum]; omega) | rfl)) ?_
        refine pg_valB rfl rfl rfl rfl rfl (e_leq rfl rfl) (fun hg19 => ?_) (fun hg19 => ?_)
        · refine p_val (e_pick_t rfl rfl) rfl ?_
          refine p_val (e_move (v := .bool _) rfl) rfl ?_
          refine pg_val rfl rfl rfl rfl rfl (e_field rfl Try.underlying78 rfl sz2 (by decide)) ?_
          refine pg_val rfl rfl rfl rfl rfl (e_loadF1 (i := 1) (off := 1) rfl ag2 S (j := 0) rfl rfl rfl (by first | with_reducible assumption | (rw [bv_length]; with_reducible assumption) | (rw [List.size_toArray, bv_length]; with_reducible assumption) | (simp [cat, msgC, jbC, sgdC, hm.h0, hm.h1, hm.go, hm.sec, hm.j, hm.rh, hm.rb, zc78, zc82, zc54, length_zsum]; done) | (simp [cat, msgC, jbC, sgdC, hm.h0, hm.h1, hm.go, hm.sec, hm.j, hm.rh, hm.rb, zc78, zc82, zc54, length_zsum]; omega) | rfl)) ?_
          refine pg_valB rfl rfl rfl rfl rfl (e_geq rfl rfl) (fun hg24 => ?_) (fun hg24 => ?_)
          · refine p_val (e_pick_t rfl rfl) rfl ?_
            refine p_val (e_move (v := .bool _) rfl) rfl ?_
            refine pg_val rfl rfl rfl rfl rfl (e_field rfl Try.underlying78 rfl sz2 (by decide)) ?_
            refine pg_val rfl rfl rfl rfl rfl (e_loadF1 (i := 1) (off := 1) rfl ag2 S (j := 0) rfl rfl rfl (by first | with_reducible assumption | (rw [bv_length]; with_reducible assumption) | (rw [List.size_toArray, bv_length]; with_reducible assumption) | (simp [cat, msgC, jbC, sgdC, hm.h0, hm.h1, hm.go, hm.sec, hm.j, hm.rh, hm.rb, zc78, zc82, zc54, length_zsum]; done) | (simp [cat, msgC, jbC, sgdC, hm.h0, hm.h1, hm.go, hm.sec, hm.j, hm.rh, hm.rb, zc78, zc82, zc54, length_zsum]; omega) | rfl)) ?_
            refine pg_valB rfl rfl rfl rfl rfl (e_leq rfl rfl) (fun hg29 => ?_) (fun hg29 => ?_)
            · refine p_val (e_pick_t rfl rfl) rfl ?_
              refine p_val (e_move (v := .bool _) rfl) rfl ?_
              refine pg_val rfl rfl rfl rfl rfl (e_field rfl Try.underlying78 rfl sz2 (by decide)) ?_
              refine pg_val rfl rfl rfl rfl rfl (e_loadF1 (i := 2) (off := 2) rfl ag2 S (j := 0) rfl rfl rfl (by first | with_reducible assumption | (rw [bv_length]; with_reducible assumption) | (rw [List.size_toArray, bv_length]; with_reducible assumption) | (simp [cat, msgC, jbC, sgdC, hm.h0, hm.h1, hm.go, hm.sec, hm.j, hm.rh, hm.rb, zc78, zc82, zc54, length_zsum]; done) | (simp [cat, msgC, jbC, sgdC, hm.h0, hm.h1, hm.go, hm.sec, hm.j, hm.rh, hm.rb, zc78, zc82, zc54, length_zsum]; omega) | rfl)) ?_
              refine pg_valB rfl rfl rfl rfl rfl (e_geq rfl rfl) (fun hg34 => ?_) (fun hg34 => ?_)
              · refine p_val (e_pick_t rfl rfl) rfl ?_
                refine p_val (e_move (v := .bool _) rfl) rfl ?_
                refine pg_val rfl rfl rfl rfl rfl (e_field rfl Try.underlying78 rfl sz2 (by decide)) ?_
                refine pg_val rfl rfl rfl rfl rfl (e_loadF1 (i := 2) (off := 2) rfl ag2 S (j := 0) rfl rfl rfl (by first | with_reducible assumption | (rw [bv_length]; with_reducible assumption) | (rw [List.size_toArray, bv_length]; with_reducible assumption) | (simp [cat, msgC, jbC, sgdC, hm.h0, hm.h1, hm.go, hm.sec, hm.j, hm.rh, hm.rb, zc78, zc82, zc54, length_zsum]; done) | (simp [cat, msgC, jbC, sgdC, hm.h0, hm.h1, hm.go, hm.sec, hm.j, hm.rh, hm.rb, zc78, zc82, zc54, length_zsum]; omega) | rfl)) ?_
                refine pg_valB rfl rfl rfl rfl rfl (e_leq rfl rfl) (fun hg39 => ?_) (fun hg39 => ?_)
                · refine p_val (e_pick_t rfl rfl) rfl ?_
                  refine p_val (e_move (v := .bool _) rfl) rfl ?_
                  refine pg_val rfl rfl rfl rfl rfl (e_field rfl Try.underlying84 rfl sz80 (by decide)) ?_
                  refine pg_val rfl rfl rfl rfl rfl (e_field rfl Try.underlying80 rfl sz3 (by decide)) ?_
                  refine pg_val rfl rfl rfl rfl rfl (e_loadF1 (i := 8) (off := 70) rfl ag3 S (j := 3) rfl rfl rfl (by first | with_reducible assumption | (rw [bv_length]; with_reducible assumption) | (rw [List.size_toArray, bv_length]; with_reducible assumption) | (simp [cat, msgC, jbC, sgdC, hm.h0, hm.h1, hm.go, hm.sec, hm.j, hm.rh, hm.rb, zc78, zc82, zc54, length_zsum]; done) | (simp [cat, msgC, jbC, sgdC, hm.h0, hm.h1, hm.go, hm.sec, hm.j, hm.rh, hm.rb, zc78, zc82, zc54, length_zsum]; omega) | rfl)) ?_
                  refine pg_valB rfl rfl rfl rfl rfl (e_geq rfl rfl) (fun hg45 => ?_) (fun hg45 => ?_)
                  · refine p_val (e_pick_t rfl rfl) rfl ?_
                    refine p_val (e_move (v := .bool _) rfl) rfl ?_
                    refine pg_val rfl rfl rfl rfl rfl (e_field rfl Try.underlying84 rfl sz80 (by decide)) ?_
                    refine pg_val rfl rfl rfl rfl rfl (e_field rfl Try.underlying80 rfl sz3 (by decide)) ?_
                    refine pg_val rfl rfl rfl rfl rfl (e_loadF1 (i := 8) (off := 70) rfl ag3 S (j := 3) rfl rfl rfl (by first | with_reducible assumption | (rw [bv_length]; with_reducible assumption) | (rw [List.size_toArray, bv_length]; with_reducible assumption) | (simp [cat, msgC, jbC, sgdC, hm.h0, hm.h1, hm.go, hm.sec, hm.j, hm.rh, hm.rb, zc78, zc82, zc54, length_zsum]; done) | (simp [cat, msgC, jbC, sgdC, hm.h0, hm.h1, hm.go, hm.sec, hm.j, hm.rh, hm.rb, zc78, zc82, zc54, length_zsum]; omega) | rfl)) ?_
                    refine pg_valB rfl rfl rfl rfl rfl (e_lss rfl rfl) (fun hg51 => ?_) (fun hg51 => ?_)
                    · refine p_val (e_pick_t rfl rfl) rfl ?_
                      refine p_val (e_move (v := .bool _) rfl) rfl ?_
                      refine pg_val rfl rfl rfl rfl rfl (e_field rfl Try.underlying84 rfl sz3 (by decide)) ?_
                      refine pg_val rfl rfl rfl rfl rfl (e_loadF1 (i := 10) (off := 103) rfl ag3 S (j := 3) rfl rfl rfl (by first | with_reducible assumption | (rw [bv_length]; with_reducible assumption) | (rw [List.size_toArray, bv_length]; with_reducible assumption) | (simp [cat, msgC, jbC, sgdC, hm.h0, hm.h1, hm.go, hm.sec, hm.j, hm.rh, hm.rb, zc78, zc82, zc54, length_zsum]; done) | (simp [cat, msgC, jbC, sgdC, hm.h0, hm.h1, hm.go, hm.sec, hm.j, hm.rh, hm.rb, zc78, zc82, zc54, length_zsum]; omega) | rfl)) ?_
                      refine pg_valB rfl rfl rfl rfl rfl (e_geq rfl rfl) (fun hg56 => ?_) (fun hg56 => ?_)
                      · refine p_val (e_pick_t rfl rfl) rfl ?_
                        refine p_val (e_move (v := .bool _) rfl) rfl ?_
                        refine pg_val rfl rfl rfl rfl rfl (e_field rfl Try.underlying84 rfl sz3 (by decide)) ?_
                        refine pg_val rfl rfl rfl rfl rfl (e_loadF1 (i := 10) (off := 103) rfl ag3 S (j := 3) rfl rfl rfl (by first | with_reducible assumption | (rw [bv_length]; with_reducible assumption) | (rw [List.size_toArray, bv_length]; with_reducible assumption) | (simp [cat, msgC, jbC, sgdC, hm.h0, hm.h1, hm.go, hm.sec, hm.j, hm.rh, hm.rb, zc78, zc82, zc54, length_zsum]; done) | (simp [cat, msgC, jbC, sgdC, hm.h0, hm.h1, hm.go, hm.sec, hm.j, hm.rh, hm.rb, zc78, zc82, zc54, length_zsum]; omega) | rfl)) ?_
                        refine pg_val rfl rfl rfl rfl rfl (e_leq rfl rfl) ?_
                        refine p_val (e_pick_t rfl rfl) rfl ?_
                        refine p_val (e_assign (v := .bool _) rfl) rfl ?_
                        exact p_nil (x_then ⟨_, rfl, _, _, upds_eq ⟨rfl, rfl, rfl, trivial⟩, by first | (simp only [decide_eq_true_eq, eq_self, true_iff, iff_true, iff_false, Bool.false_eq_true, false_iff, ge_iff_le, gt_iff_lt, true_and, and_true, false_and, and_false, true_or, or_true, false_or, or_false, not_true_eq_false, not_false_eq_true]; omega) | (simp; done) | omega | (simp_all; done), S⟩)
                      · refine p_val (e_pick_t rfl rfl) rfl ?_
                        refine p_val (e_move (v := .bool _) rfl) rfl ?_
                        refine p_no rfl rfl rfl rfl rfl ?_
                        refine p_no rfl rfl rfl rfl rfl ?_
                        refine p_no rfl rfl rfl rfl rfl ?_
                        refine p_val (e_pick_f rfl rfl) rfl ?_
                        refine p_val (e_assign (v := .bool _) rfl) rfl ?_
                        exact p_nil (x_then ⟨_, rfl, _, _, upds_eq ⟨rfl, rfl, rfl, trivial⟩, by first | (simp only [decide_eq_true_eq, eq_self, true_iff, iff_true, iff_false, Bool.false_eq_true, false_iff, ge_iff_le, gt_iff_lt, true_and, and_true, false_and, and_false, true_or, or_true, false_or, or_false, not_true_eq_false, not_false_eq_true]; omega) | (simp; done) | omega | (simp_all; done), S⟩)
                    · refine p_val (e_pick_t rfl rfl) rfl ?_
                      refine p_val (e_move (v := .bool _) rfl) rfl ?_
                      refine p_no rfl rfl rfl rfl rfl ?_
                      refine p_no rfl rfl rfl rfl rfl ?_
                      refine p_no rfl rfl rfl rfl rfl ?_
                      refine p_val (e_pick_f rfl rfl) rfl ?_
                      refine p_val (e_move (v := .bool _) rfl) rfl ?_
                      refine p_no rfl rfl rfl rfl rfl ?_
                      refine p_no rfl rfl rfl rfl rfl ?_
                      refine p_no rfl rfl rfl rfl rfl ?_
                      refine p_val (e_pick_f rfl rfl) rfl ?_
                      refine p_val (e_assign (v := .bool _) rfl) rfl ?_
                      exact p_nil (x_then ⟨_, rfl, _, _, upds_eq ⟨rfl, rfl, rfl, trivial⟩, by first | (simp only [decide_eq_true_eq, eq_self, true_iff, iff_true, iff_false, Bool.false_eq_true, false_iff, ge_iff_le, gt_iff_lt, true_and, and_true, false_and, and_false, true_or, or_true, false_or, or_false, not_true_eq_false, not_false_eq_true]; omega) | (simp; done) | omega | (simp_all; done), S⟩)
                  · refine p_val (e_pick_t rfl rfl) rfl ?_
                    refine p_val (e_move (v := .bool _) rfl) rfl ?_
                    refine p_no rfl rfl rfl rfl rfl ?_
                    refine p_no rfl rfl rfl rfl rfl ?_
                    refine p_no rfl rfl rfl rfl rfl ?_
                    refine p_no rfl rfl rfl rfl rfl ?_
                    refine p_val (e_pick_f rfl rfl) rfl ?_
                    refine p_val (e_move (v := .bool _) rfl) rfl ?_
                    refine p_no rfl rfl rfl rfl rfl ?_
                    refine p_no rfl rfl rfl rfl rfl ?_
                    refine p_no rfl rfl rfl rfl rfl ?_
                    refine p_val (e_pick_f rfl rfl) rfl ?_
                    refine p_val (e_move (v := .bool _) rfl) rfl ?_
                    refine p_no rfl rfl rfl rfl rfl ?_
                    refine p_no rfl rfl rfl rfl rfl ?_
                    refine p_no rfl rfl rfl rfl rfl ?_
                    refine p_val (e_pick_f rfl rfl) rfl ?_
                    refine p_val (e_assign (v := .bool _) rfl) rfl ?_
                    exact p_nil (x_then ⟨_, rfl, _, _, upds_eq ⟨rfl, rfl, rfl, trivial⟩, by first | (simp only [decide_eq_true_eq, eq_self, true_iff, iff_true, iff_false, Bool.false_eq_true, false_iff, ge_iff_le, gt_iff_lt, true_and, and_true, false_and, and_false, true_or, or_true, false_or, or_false, not_true_eq_false, not_false_eq_true]; omega) | (simp; done) | omega | (simp_all; done), S⟩)
                · refine p_val (e_pick_t rfl rfl) rfl ?_
                  refine p_val (e_move (v := .bool _) rfl) rfl ?_
                  refine p_no rfl rfl rfl rfl rfl ?_
                  refine p_no rfl rfl rfl rfl rfl ?_
                  refine p_no rfl rfl rfl rfl rfl ?_
                  refine p_no rfl rfl rfl rfl rfl ?_
                  refine p_val (e_pick_f rfl rfl) rfl ?_
                  refine p_val (e_move (v := .bool _) rfl) rfl ?_
                  refine p_no rfl rfl rfl rfl rfl ?_
                  refine p_no rfl rfl rfl rfl rfl ?_
                  refine p_no rfl rfl rfl rfl rfl ?_
                  refine p_no rfl rfl rfl rfl rfl ?_
                  refine p_val (e_pick_f rfl rfl) rfl ?_
                  refine p_val (e_move (v := .bool _) rfl) rfl ?_
                  refine p_no rfl rfl rfl rfl rfl ?_
                  refine p_no rfl rfl rfl rfl rfl ?_
                  refine p_no rfl rfl rfl rfl rfl ?_
                  refine p_val (e_pick_f rfl rfl) rfl ?_
                  refine p_val (e_move (v := .bool _) rfl) rfl ?_
                  refine p_no rfl rfl rfl rfl rfl ?_
                  refine p_no rfl rfl rfl rfl rfl ?_
                  refine p_no rfl rfl rfl rfl rfl ?_
                  refine p_val (e_pick_f rfl rfl) rfl ?_
                  refine p_val (e_assign (v := .bool _) rfl) rfl ?_
                  exact p_nil (x_then ⟨_, rfl, _, _, upds_eq ⟨rfl, rfl, rfl, trivial⟩, by first | (simp only [decide_eq_true_eq, eq_self, true_iff, iff_true, iff_false, Bool.false_eq_true, false_iff, ge_iff_le, gt_iff_lt, true_and, and_true, false_and, and_false, true_or, or_true, false_or, or_false, not_true_eq_false, not_false_eq_true]; omega) | (simp; done) | omega | (simp_all; done), S⟩)
              · refine p_val (e_pick_t rfl rfl) rfl ?_
                refine p_val (e_move (v := .bool _) rfl) rfl ?_
                refine p_no rfl rfl rfl rfl rfl ?_
                refine p_no rfl rfl rfl rfl rfl ?_
                refine p_no rfl rfl rfl rfl rfl ?_
                refine p_val (e_pick_f rfl rfl) rfl ?_
                refine p_val (e_move (v := .bool _) rfl) rfl ?_
                refine p_no rfl rfl rfl rfl rfl ?_
                refine p_no rfl rfl rfl rfl rfl ?_
                refine p_no rfl rfl rfl rfl rfl ?_
                refine p_no rfl rfl rfl rfl rfl ?_
                refine p_val (e_pick_f rfl rfl) rfl ?_
                refine p_val (e_move (v := .bool _) rfl) rfl ?_
                refine p_no rfl rfl rfl rfl rfl ?_
                refine p_no rfl rfl rfl rfl rfl ?_
                refine p_no rfl rfl rfl rfl rfl ?_
                refine p_no rfl rfl rfl rfl rfl ?_
                refine p_val (e_pick_f rfl rfl) rfl ?_
                refine p_val (e_move (v := .bool _) rfl) rfl ?_
                refine p_no rfl rfl rfl rfl rfl ?_
                refine p_no rfl rfl rfl rfl rfl ?_
                refine p_no rfl rfl rfl rfl rfl ?_
                refine p_val (e_pick_f rfl rfl) rfl ?_
                refine p_val (e_move (v := .bool _) rfl) rfl ?_
                refine p_no rfl rfl rfl rfl rfl ?_
                refine p_no rfl rfl rfl rfl rfl ?_
                refine p_no rfl rfl rfl rfl rfl ?_
                refine p_val (e_pick_f rfl rfl) rfl ?_
                refine p_val (e_assign (v := .bool _) rfl) rfl ?_
                exact p_nil (x_then ⟨_, rfl, _, _, upds_eq ⟨rfl, rfl, rfl, trivial⟩, by first | (simp only [decide_eq_true_eq, eq_self, true_iff, iff_true, iff_false, Bool.false_eq_true, false_iff, ge_iff_le, gt_iff_lt, true_and, and_true, false_and, and_false, true_or, or_true, false_or, or_false, not_true_eq_false, not_false_eq_true]; omega) | (simp; done) | omega | (simp_all; done), S⟩)
            · refine p_val (e_pick_t rfl rfl) rfl ?_
              refine p_val (e_move (v := .bool _) rfl) rfl ?_
              refine p_no rfl rfl rfl rfl rfl ?_
              refine p_no rfl rfl rfl rfl rfl ?_
              refine p_no rfl rfl rfl rfl rfl ?_
              refine p_val (e_pick_f rfl rfl) rfl ?_
              refine p_val (e_move (v := .bool _) rfl) rfl ?_
              refine p_no rfl rfl rfl rfl rfl ?_
              refine p_no rfl rfl rfl rfl rfl ?_
              refine p_no rfl rfl rfl rfl rfl ?_
              refine p_val (e_pick_f rfl rfl) rfl ?_
              refine p_val (e_move (v := .bool _) rfl) rfl ?_
              refine p_no rfl rfl rfl rfl rfl ?_
              refine p_no rfl rfl rfl rfl rfl ?_
              refine p_no rfl rfl rfl rfl rfl ?_
              refine p_no rfl rfl rfl rfl rfl ?_
              refine p_val (e_pick_f rfl rfl) rfl ?_
              refine p_val (e_move (v := .bool _) rfl) rfl ?_
              refine p_no rfl rfl rfl rfl rfl ?_
              refine p_no rfl rfl rfl rfl rfl ?_
              refine p_no rfl rfl rfl rfl rfl ?_
              refine p_no rfl rfl rfl rfl rfl ?_
              refine p_val (e_pick_f rfl rfl) rfl ?_
              refine p_val (e_move (v := .bool _) rfl) rfl ?_
              refine p_no rfl rfl rfl rfl rfl ?_
              refine p_no rfl rfl rfl rfl rfl ?_
              refine p_no rfl rfl rfl rfl rfl ?_
              refine p_val (e_pick_f rfl rfl) rfl ?_
              refine p_val (e_move (v := .bool _) rfl) rfl ?_
              refine p_no rfl rfl rfl rfl rfl ?_
              refine p_no rfl rfl rfl rfl rfl ?_
              refine p_no rfl rfl rfl rfl rfl ?_
              refine p_val (e_pick_f rfl rfl) rfl ?_
              refine p_val (e_assign (v := .bool _) rfl) rfl ?_
              exact p_nil (x_then ⟨_, rfl, _, _, upds_eq ⟨rfl, rfl, rfl, trivial⟩, by first | (simp only [decide_eq_true_eq, eq_self, true_iff, iff_true, iff_false, Bool.false_eq_true, false_iff, ge_iff_le, gt_iff_lt, true_and, and_true, false_and, and_false, true_or, or_true, false_or, or_false, not_true_eq_false, not_false_eq_true]; omega) | (simp; done) | omega | (simp_all; done), S⟩)
          · refine p_val (e_pick_t rfl rfl) rfl ?_
            refine p_val (e_move (v := .bool _) rfl) rfl ?_
            refine p_no rfl rfl rfl rfl rfl ?_
            refine p_no rfl rfl rfl rfl rfl ?_
            refine p_no rfl rfl rfl rfl rfl ?_
            refine p_val (e_pick_f rfl rfl) rfl ?_
            refine p_val (e_move (v := .bool _) rfl) rfl ?_
            refine p_no rfl rfl rfl rfl rfl ?_
            refine p_no rfl rfl rfl rfl rfl ?_
            refine p_no rfl rfl rfl rfl rfl ?_
            refine p_val (e_pick_f rfl rfl) rfl ?_
            refine p_val (e_move (v := .bool _) rfl) rfl ?_
            refine p_no rfl rfl rfl rfl rfl ?_
            refine p_no rfl rfl rfl rfl rfl ?_
            refine p_no rfl rfl rfl rfl rfl ?_
            refine p_val (e_pick_f rfl rfl) rfl ?_
            refine p_val (e_move (v := .bool _) rfl) rfl ?_
            refine p_no rfl rfl rfl rfl rfl ?_
            refine p_no rfl rfl rfl rfl rfl ?_
            refine p_no rfl rfl rfl rfl rfl ?_
            refine p_no rfl rfl rfl rfl rfl ?_
            refine p_val (e_pick_f rfl rfl) rfl ?_
            refine p_val (e_move (v := .bool _) rfl) rfl ?_
            refine p_no rfl rfl rfl rfl rfl ?_
            refine p_no rfl rfl rfl rfl rfl ?_
            refine p_no rfl rfl rfl rfl rfl ?_
            refine p_no rfl rfl rfl rfl rfl ?_
            refine p_val (e_pick_f rfl rfl) rfl ?_
            refine p_val (e_move (v := .bool _) rfl) rfl ?_
            refine p_no rfl rfl rfl rfl rfl ?_
            refine p_no rfl rfl rfl rfl rfl ?_
            refine p_no rfl rfl rfl rfl rfl ?_
            refine p_val (e_pick_f rfl rfl) rfl ?_
            refine p_val (e_move (v := .bool _) rfl) rfl ?_
            refine p_no rfl rfl rfl rfl rfl ?_
            refine p_no rfl rfl rfl rfl rfl ?_
            refine p_no rfl rfl rfl rfl rfl ?_
            refine p_val (e_pick_f rfl rfl) rfl ?_
            refine p_val (e_assign (v := .bool _) rfl) rfl ?_
            exact p_nil (x_then ⟨_, rfl, _, _, upds_eq ⟨rfl, rfl, rfl, trivial⟩, by first | (simp only [decide_eq_true_eq, eq_self, true_iff, iff_true, iff_false, Bool.false_eq_true, false_iff, ge_iff_le, gt_iff_lt, true_and, and_true, false_and, and_false, true_or, or_true, false_or, or_false, not_true_eq_false, not_false_eq_true]; omega) | (simp; done) | omega | (simp_all; done), S⟩)
        · refine p_val (e_pick_t rfl rfl) rfl ?_
          refine p_val (e_move (v := .bool _) rfl) rfl ?_
          refine p_no rfl rfl rfl rfl rfl ?_
          refine p_no rfl rfl rfl rfl rfl ?_
          refine p_no rfl rfl rfl rfl rfl ?_
          refine p_val (e_pick_f rfl rfl) rfl ?_
          refine p_val (e_move (v := .bool _) rfl) rfl ?_
          refine p_no rfl rfl rfl rfl rfl ?_
          refine p_no rfl rfl rfl rfl rfl ?_
          refine p_no rfl rfl rfl rfl rfl ?_
          refine p_val (e_pick_f rfl rfl) rfl ?_
          refine p_val (e_move (v := .bool _) rfl) rfl ?_
          refine p_no rfl rfl rfl rfl rfl ?_
          refine p_no rfl rfl rfl rfl rfl ?_
          refine p_no rfl rfl rfl rfl rfl ?_
          refine p_val (e_pick_f rfl rfl) rfl ?_
          refine p_val (e_move (v := .bool _) rfl) rfl ?_
          refine p_no rfl rfl rfl rfl rfl ?_
          refine p_no rfl rfl rfl rfl rfl ?_
          refine p_no rfl rfl rfl rfl rfl ?_
          refine p_val (e_pick_f rfl rfl) rfl ?_
          refine p_val (e_move (v := .bool _) rfl) rfl ?_
          refine p_no rfl rfl rfl rfl rfl ?_
          refine p_no rfl rfl rfl rfl rfl ?_
          refine p_no rfl rfl rfl rfl rfl ?_
          refine p_no rfl rfl rfl rfl rfl ?_
          refine p_val (e_pick_f rfl rfl) rfl ?_
          refine p_val (e_move (v := .bool _) rfl) rfl ?_
          refine p_no rfl rfl rfl rfl rfl ?_
          refine p_no rfl rfl rfl rfl rfl ?_
          refine p_no rfl rfl rfl rfl rfl ?_
          refine p_no rfl rfl rfl rfl rfl ?_
          refine p_val (e_pick_f rfl rfl) rfl ?_
          refine p_val (e_move (v := .bool _) rfl) rfl ?_
          refine p_no rfl rfl rfl rfl rfl ?_
          refine p_no rfl rfl rfl rfl rfl ?_
          refine p_no rfl rfl rfl rfl rfl ?_
          refine p_val (e_pick_f rfl rfl) rfl ?_
          refine p_val (e_move (v := .bool _) rfl) rfl ?_
          refine p_no rfl rfl rfl rfl rfl ?_
          refine p_no rfl rfl rfl rfl rfl ?_
          refine p_no rfl rfl rfl rfl rfl ?_
          refine p_val (e_pick_f rfl rfl) rfl ?_
          refine p_val (e_assign (v := .bool _) rfl) rfl ?_
          exact p_nil (x_then ⟨_, rfl, _, _, upds_eq ⟨rfl, rfl, rfl, trivial⟩, by first | (simp only [decide_eq_true_eq, eq_self, true_iff, iff_true, iff_false, Bool.false_eq_true, false_iff, ge_iff_le, gt_iff_lt, true_and, and_true, false_and, and_false, true_or, or_true, false_or, or_false, not_true_eq_false, not_false_eq_true]; omega) | (simp; done) | omega | (simp_all; done), S⟩)
      · refine p_val (e_move (v := .bool _) rfl) rfl ?_
        refine p_no rfl rfl rfl rfl rfl ?_
        refine p_no rfl rfl rfl rfl rfl ?_
        refine p_no rfl rfl rfl rfl rfl ?_
        refine p_val (e_pick_f rfl rfl) rfl ?_
        refine p_val (e_move (v := .bool _) rfl) rfl ?_
        refine p_no rfl rfl rfl rfl rfl ?_
        refine p_no rfl rfl rfl rfl rfl ?_
        refine p_no rfl rfl rfl rfl rfl ?_
        refine p_val (e_pick_f rfl rfl) rfl ?_
        refine p_val (e_move (v := .bool _) rfl) rfl ?_
        refine p_no rfl rfl rfl rfl rfl ?_
        refine p_no rfl rfl rfl rfl rfl ?_
        refine p_no rfl rfl rfl rfl rfl ?_
        refine p_val (e_pick_f rfl rfl) rfl ?_
        refine p_val (e_move (v := .bool _) rfl) rfl ?_
        refine p_no rfl rfl rfl rfl rfl ?_
        refine p_no rfl rfl rfl rfl rfl ?_
        refine p_no rfl rfl rfl rfl rfl ?_
        refine p_val (e_pick_f rfl rfl) rfl ?_
        refine p_val (e_move (v := .bool _) rfl) rfl ?_
        refine p_no rfl rfl rfl rfl rfl ?_
        refine p_no rfl rfl rfl rfl rfl ?_
        refine p_no rfl rfl rfl rfl rfl ?_
        refine p_val (e_pick_f rfl rfl) rfl ?_
        refine p_val (e_move (v := .bool _) rfl) rfl ?_
        refine p_no rfl rfl rfl rfl rfl ?_
        refine p_no rfl rfl rfl rfl rfl ?_
        refine p_no rfl rfl rfl rfl rfl ?_
        refine p_no rfl rfl rfl rfl rfl ?_
        refine p_val (e_pick_f rfl rfl) rfl ?_
        refine p_val (e_move (v := .bool _) rfl) rfl ?_
        refine p_no rfl rfl rfl rfl rfl ?_
        refine p_no rfl rfl rfl rfl rfl ?_
        refine p_no rfl rfl rfl rfl rfl ?_
        refine p_no rfl rfl rfl rfl rfl ?_
        refine p_val (e_pick_f rfl rfl) rfl ?_
        refine p_val (e_move (v := .bool _) rfl) rfl ?_
        refine p_no rfl rfl rfl rfl rfl ?_
        refine p_no rfl rfl rfl rfl rfl ?_
        refine p_no rfl rfl rfl rfl rfl ?_
        refine p_val (e_pick_f rfl rfl) rfl ?_
        refine p_val (e_move (v := .bool _) rfl) rfl ?_
        refine p_no rfl rfl rfl rfl rfl ?_
        refine p_no rfl rfl rfl rfl rfl ?_
        refine p_no rfl rfl rfl rfl rfl ?_
        refine p_val (e_pick_f rfl rfl) rfl ?_
        refine p_val (e_assign (v := .bool _) rfl) rfl ?_
        exact p_nil (x_then ⟨_, rfl, _, _, upds_eq ⟨rfl, rfl, rfl, trivial⟩, by first | (simp only [decide_eq_true_eq, eq_self, true_iff, iff_true, iff_false, Bool.false_eq_true, false_iff, ge_iff_le, gt_iff_lt, true_and, and_true, false_and, and_false, true_or, or_true, false_or, or_false, not_true_eq_false, not_false_eq_true]; omega) | (simp; done) | omega | (simp_all; done), S⟩)
    · rintro f w ⟨u, b6, rfl, hb6, S⟩
      refine x_then (s_seq ?_)
      refine s_cutK (ks := [some y3, some y4, some y5, some b1]) (ps := [Ex _ _, Ex _ _, Ex _ _, Ex _ _]) [] trivial S (fun keep ks ps f' w' => ∃ u bb, f' = upds u ((2, .bool bb) :: keep) ∧ (bb = true ↔ (((((((((((((((((((((0 : Int) ≤ m.n) ∧ (m.n ≤ (1048576 : Int))) ∧ ((0 : Int) ≤ m.c)) ∧ (m.c ≤ (1125899906842624 : Int))) ∧ ((0 : Int) ≤ m.p)) ∧ (m.p ≤ (1125899906842624 : Int))) ∧ ((0 : Int) ≤ m.gk)) ∧ (m.gk < (256 : Int))) ∧ ((0 : Int) ≤ m.m)) ∧ (m.m ≤ (1048576 : Int))) ∧ ((0 : Int) ≤ m.j.c)) ∧ (m.j.c ≤ (1048576 : Int))) ∧ ((0 : Int) ≤ m.j.s)) ∧ (m.j.s ≤ (1048576 : Int))) ∧ ((0 : Int) ≤ m.r.t)) ∧ (m.r.t < (16 : Int))) ∧ ((0 : Int) ≤ m.r.c)) ∧ (m.r.c ≤ (1048576 : Int))) ∧ ((0 : Int) ≤ m.r.s)) ∧ (m.r.s ≤ (1048576 : Int)))) ∧ St w0 w' [] ks ps) ?_ ?_
      · refine s_plain ?_
        rcases Bool.eq_false_or_eq_true b6 with rfl | rfl
        · skip
          have hp6 := hb6.1 rfl
          refine p_val (e_move (v := .bool _) rfl) rfl ?_
          refine p_val (e_move (v := .bool _) rfl) rfl ?_
          refine pg_val rfl rfl rfl rfl rfl (e_field rfl Try.underlying82 rfl sz3 (by decide)) ?_
          refine pg_val rfl rfl rfl rfl rfl (e_loadF1 (i := 0) (off := 0) rfl ag3 S (j := 1) rfl rfl rfl (by first | with_reducible assumption | (rw [bv_length]; with_reducible assumption) | (rw [List.size_toArray, bv_length]; with_reducible assumption) | (simp [cat, msgC, jbC, sgdC, hm.h0, hm.h1, hm.go, hm.sec, hm.j, hm.rh, hm.rb, zc78, zc82, zc54, length_zsum]; done) | (simp [cat, msgC, jbC, sgdC, hm.h0, hm.h1, hm.go, hm.sec, hm.j, hm.rh, hm.rb, zc78, zc82, zc54, length_zsum]; omega) | rfl)) ?_
          refine pg_valB rfl rfl rfl rfl rfl (e_geq rfl rfl) (fun hg67 => ?_) (fun hg67 => ?_)
          · refine p_val (e_pick_t rfl rfl) rfl ?_
            refine p_val (e_move (v := .bool _) rfl) rfl ?_
            refine pg_val rfl rfl rfl rfl rfl (e_field rfl Try.underlying82 rfl sz3 (by decide)) ?_
            refine pg_val rfl rfl rfl rfl rfl (e_loadF1 (i := 0) (off := 0) rfl ag3 S (j := 1) rfl rfl rfl (by first | with_reducible assumption | (rw [bv_length]; with_reducible assumption) | (rw [List.size_toArray, bv_length]; with_reducible assumption) | (simp [cat, msgC, jbC, sgdC, hm.h0, hm.h1, hm.go, hm.sec, hm.j, hm.rh, hm.rb, zc78, zc82, zc54, length_zsum]; done) | (simp [cat, msgC, jbC, sgdC, hm.h0, hm.h1, hm.go, hm.sec, hm.j, hm.rh, hm.rb, zc78, zc82, zc54, length_zsum]; omega) | rfl)) ?_
            refine pg_valB rfl rfl rfl rfl rfl (e_leq rfl rfl) (fun hg72 => ?_) (fun hg72 => ?_)
            · refine p_val (e_pick_t rfl rfl) rfl ?_
              refine p_val (e_move (v := .bool _) rfl) rfl ?_
              refine pg_val rfl rfl rfl rfl rfl (e_field rfl Try.underlying82 rfl sz3 (by decide)) ?_
              refine pg_val rfl rfl rfl rfl rfl (e_loadF1 (i := 1) (off := 1) rfl ag3 S (j := 1) rfl rfl rfl (by first | with_reducible assumption | (rw [bv_length]; with_reducible assumption) | (rw [List.size_toArray, bv_length]; with_reducible assumption) | (simp [cat, msgC, jbC, sgdC, hm.h0, hm.h1, hm.go, hm.sec, hm.j, hm.rh, hm.rb, zc78, zc82, zc54, length_zsum]; done) | (simp [cat, msgC, jbC, sgdC, hm.h0, hm.h1, hm.go, hm.sec, hm.j, hm.rh, hm.rb, zc78, zc82, zc54, length_zsum]; omega) | rfl)) ?_
              refine pg_valB rfl rfl rfl rfl rfl (e_geq rfl rfl) (fun hg77 => ?_) (fun hg77 => ?_)
              · refine p_val (e_pick_t rfl rfl) rfl ?_
                refine p_val (e_move (v := .bool _) rfl) rfl ?_
                refine pg_val rfl rfl rfl rfl rfl (e_field rfl Try.underlying82 rfl sz3 (by decide)) ?_
                refine pg_val rfl rfl rfl rfl rfl (e_loadF1 (i := 1) (off := 1) rfl ag3 S (j := 1) rfl rfl rfl (by first | with_reducible assumption | (rw [bv_length]; with_reducible assumption) | (rw [List.size_toArray, bv_length]; with_reducible assumption) | (simp [cat, msgC, jbC, sgdC, hm.h0, hm.h1, hm.go, hm.sec, hm.j, hm.rh, hm.rb, zc78, zc82, zc54, length_zsum]; done) | (simp [cat, msgC, jbC, sgdC, hm.h0, hm.h1, hm.go, hm.sec, hm.j, hm.rh, hm.rb, zc78, zc82, zc54, length_zsum]; omega) | rfl)) ?_
                refine pg_valB rfl rfl rfl rfl rfl (e_leq rfl rfl) (fun hg82 => ?_) (fun hg82 => ?_)
                · refine p_val (e_pick_t rfl rfl) rfl ?_
                  refine p_val (e_move (v := .bool _) rfl) rfl ?_
                  refine pg_val rfl rfl rfl rfl rfl (e_field rfl Try.underlying54 rfl sz46 (by decide)) ?_
                  refine pg_val rfl rfl rfl rfl rfl (e_field rfl Try.underlying46 rfl sz3 (by decide)) ?_
                  refine pg_val rfl rfl rfl rfl rfl (e_loadF1 (i := 0) (off := 0) rfl ag3 S (j := 2) rfl rfl rfl (by first | with_reducible assumption | (rw [bv_length]; with_reducible assumption) | (rw [List.size_toArray, bv_length]; with_reducible assumption) | (simp [cat, msgC, jbC, sgdC, hm.h0, hm.h1, hm.go, hm.sec, hm.j, hm.rh, hm.rb, zc78, zc82, zc54, length_zsum]; done) | (simp [cat, msgC, jbC, sgdC, hm.h0, hm.h1, hm.go, hm.sec, hm.j, hm.rh, hm.rb, zc78, zc82, zc54, length_zsum]; omega) | rfl)) ?_
                  refine pg_valB rfl rfl rfl rfl rfl (e_geq rfl rfl) (fun hg88 => ?_) (fun hg88 => ?_)
                  · refine p_val (e_pick_t rfl rfl) rfl ?_
                    refine p_val (e_move (v := .bool _) rfl) rfl ?_
                    refine pg_val rfl rfl rfl rfl rfl (e_field rfl Try.underlying54 rfl sz46 (by decide)) ?_
                    refine pg_val rfl rfl rfl rfl rfl (e_field rfl Try.underlying46 rfl sz3 (by decide)) ?_
                    refine pg_val rfl rfl rfl rfl rfl (e_loadF1 (i := 0) (off := 0) rfl ag3 S (j := 2) rfl rfl rfl (by first | with_reducible assumption | (rw [bv_length]; with_reducible assumption) | (rw [List.size_toArray, bv_length]; with_reducible assumption) | (simp [cat, msgC, jbC, sgdC, hm.h0, hm.h1, hm.go, hm.sec, hm.j, hm.rh, hm.rb, zc78, zc82, zc54, length_zsum]; done) | (simp [cat, msgC, jbC, sgdC, hm.h0, hm.h1, hm.go, hm.sec, hm.j, hm.rh, hm.rb, zc78, zc82, zc54, length_zsum]; omega) | rfl)) ?_
                    refine pg_valB rfl rfl rfl rfl rfl (e_lss rfl rfl) (fun hg94 => ?_) (fun hg94 => ?_)
                    · refine p_val (e_pick_t rfl rfl) rfl ?_
                      refine p_val (e_move (v := .bool _) rfl) rfl ?_
                      refine pg_val rfl rfl rfl rfl rfl (e_field rfl Try.underlying54 rfl sz46 (by decide)) ?_
                      refine pg_val rfl rfl rfl rfl rfl (e_field rfl Try.underlying46 rfl sz3 (by decide)) ?_
                      refine pg_val rfl rfl rfl rfl rfl (e_loadF1 (i := 1) (off := 1) rfl ag3 S (j := 2) rfl rfl rfl (by first | with_reducible assumption | (rw [bv_length]; with_reducible assumption) | (rw [List.size_toArray, bv_length]; with_reducible assumption) | (simp [cat, msgC, jbC, sgdC, hm.h0, hm.h1, hm.go, hm.sec, hm.j, hm.rh, hm.rb, zc78, zc82, zc54, length_zsum]; done) | (simp [cat, msgC, jbC, sgdC, hm.h0, hm.h1, hm.go, hm.sec, hm.j, hm.rh, hm.rb, zc78, zc82, zc54, length_zsum]; omega) | rfl)) ?_
                      refine pg_valB rfl rfl rfl rfl rfl (e_geq rfl rfl) (fun hg100 => ?_) (fun hg100 => ?_)
                      · refine p_val (e_pick_t rfl rfl) rfl ?_
                        refine p_val (e_move (v := .bool _) rfl) rfl ?_
                        refine pg_val rfl rfl rfl rfl rfl (e_field rfl Try.underlying54 rfl sz46 (by decide)) ?_
                        refine pg_val rfl rfl rfl rfl rfl (e_field rfl Try.underlying46 rfl sz3 (by decide)) ?_
                        refine pg_val rfl rfl rfl rfl rfl (e_loadF1 (i := 1) (off := 1) rfl ag3 S (j := 2) rfl rfl rfl (by first | with_reducible assumption | (rw [bv_length]; with_reducible assumption) | (rw [List.size_toArray, bv_length]; with_reducible assumption) | (simp [cat, msgC, jbC, sgdC, hm.h0, hm.h1, hm.go, hm.sec, hm.j, hm.rh, hm.rb, zc78, zc82, zc54, length_zsum]; done) | (simp [cat, msgC, jbC, sgdC, hm.h0, hm.h1, hm.go, hm.sec, hm.j, hm.rh, hm.rb, zc78, zc82, zc54, length_zsum]; omega) | rfl)) ?_
                        refine pg_valB rfl rfl rfl rfl rfl (e_leq rfl rfl) (fun hg106 => ?_) (fun hg106 => ?_)
                        · refine p_val (e_pick_t rfl rfl) rfl ?_
                          refine p_val (e_move (v := .bool _) rfl) rfl ?_
                          refine pg_val rfl rfl rfl rfl rfl (e_field rfl Try.underlying54 rfl sz46 (by decide)) ?_
                          refine pg_val rfl rfl rfl rfl rfl (e_field rfl Try.underlying46 rfl sz3 (by decide)) ?_
                          refine pg_val rfl rfl rfl rfl rfl (e_loadF1 (i := 2) (off := 2) rfl ag3 S (j := 2) rfl rfl rfl (by first | with_reducible assumption | (rw [bv_length]; with_reducible assumption) | (rw [List.size_toArray, bv_length]; with_reducible assumption) | (simp [cat, msgC, jbC, sgdC, hm.h0, hm.h1, hm.go, hm.sec, hm.j, hm.rh, hm.rb, zc78, zc82, zc54, length_zsum]; done) | (simp [cat, msgC, jbC, sgdC, hm.h0, hm.h1, hm.go, hm.sec, hm.j, hm.rh, hm.rb, zc78, zc82, zc54, length_zsum]; omega) | rfl)) ?_
                          refine pg_valB rfl rfl rfl rfl rfl (e_geq rfl rfl) (fun hg112 => ?_) (fun hg112 => ?_)
                          · refine p_val (e_pick_t rfl rfl) rfl ?_
                            refine p_val (e_move (v := .bool _) rfl) rfl ?_
                            refine pg_val rfl rfl rfl rfl rfl (e_field rfl Try.underlying54 rfl sz46 (by decide)) ?_
                            refine pg_val rfl rfl rfl rfl rfl (e_field rfl Try.underlying46 rfl sz3 (by decide)) ?_
                            refine pg_val rfl rfl rfl rfl rfl (e_loadF1 (i := 2) (off := 2) rfl ag3 S (j := 2) rfl rfl rfl (by first | with_reducible assumption | (rw [bv_length]; with_reducible assumption) | (rw [List.size_toArray, bv_length]; with_reducible assumption) | (simp [cat, msgC, jbC, sgdC, hm.h0, hm.h1, hm.go, hm.sec, hm.j, hm.rh, hm.rb, zc78, zc82, zc54, length_zsum]; done) | (simp [cat, msgC, jbC, sgdC, hm.h0, hm.h1, hm.go, hm.sec, hm.j, hm.rh, hm.rb, zc78, zc82, zc54, length_zsum]; omega) | rfl)) ?_
                            refine pg_val rfl rfl rfl rfl rfl (e_leq rfl rfl) ?_
                            refine p_val (e_pick_t rfl rfl) rfl ?_
                            refine p_val (e_assign (v := .bool _) rfl) rfl ?_
                            exact p_nil (x_then ⟨_, rfl, _, _, upds_eq ⟨rfl, trivial⟩, by first | (simp only [decide_eq_true_eq, eq_self, true_iff, iff_true, iff_false, Bool.false_eq_true, false_iff, ge_iff_le, gt_iff_lt, true_and, and_true, false_and, and_false, true_or, or_true, false_or, or_false, not_true_eq_false, not_false_eq_true]; omega) | (simp; done) | omega | (simp_all; done), S⟩)
                          · refine p_val (e_pick_t rfl rfl) rfl ?_
                            refine p_val (e_move (v := .bool _) rfl) rfl ?_
                            refine p_no rfl rfl rfl rfl rfl ?_
                            refine p_no rfl rfl rfl rfl rfl ?_
                            refine p_no rfl rfl rfl rfl rfl ?_
                            refine p_no rfl rfl rfl rfl rfl ?_
                            refine p_val (e_pick_f rfl rfl) rfl ?_
                            refine p_val (e_assign (v := .bool _) rfl) rfl ?_
                            exact p_nil (x_then ⟨_, rfl, _, _, upds_eq ⟨rfl, trivial⟩, by first | (simp only [decide_eq_true_eq, eq_self, true_iff, iff_true, iff_false, Bool.false_eq_true, false_iff, ge_iff_le, gt_iff_lt, true_and, and_true, false_and, and_false, true_or, or_true, false_or, or_false, not_true_eq_false, not_false_eq_true]; omega) | (simp; done) | omega | (simp_all; done), S⟩)
                        · refine p_val (e_pick_t rfl rfl) rfl ?_
                          refine p_val (e_move (v := .bool _) rfl) rfl ?_
                          refine p_no rfl rfl rfl rfl rfl ?_
                          refine p_no rfl rfl rfl rfl rfl ?_
                          refine p_no rfl rfl rfl rfl rfl ?_
                          refine p_no rfl rfl rfl rfl rfl ?_
                          refine p_val (e_pick_f rfl rfl) rfl ?_
                          refine p_val (e_move (v := .bool _) rfl) rfl ?_
                          refine p_no rfl rfl rfl rfl rfl ?_
                          refine p_no rfl rfl rfl rfl rfl ?_
                          refine p_no rfl rfl rfl rfl rfl ?_
                          refine p_no rfl rfl rfl rfl rfl ?_
                          refine p_val (e_pick_f rfl rfl) rfl ?_
                          refine p_val (e_assign (v := .bool _) rfl) rfl ?_
                          exact p_nil (x_then ⟨_, rfl, _, _, upds_eq ⟨rfl, trivial⟩, by first | (simp only [decide_eq_true_eq, eq_self, true_iff, iff_true, iff_false, Bool.false_eq_true, false_iff, ge_iff_le, gt_iff_lt, true_and, and_true, false_and, and_false, true_or, or_true, false_or, or_false, not_true_eq_false, not_false_eq_true]; omega) | (simp; done) | omega | (simp_all; done), S⟩)
                      · refine p_val (e_pick_t rfl rfl) rfl ?_
                        refine p_val (e_move (v := .bool _) rfl) rfl ?_
                        refine p_no rfl rfl rfl rfl rfl ?_
                        refine p_no rfl rfl rfl rfl rfl ?_
                        refine p_no rfl rfl rfl rfl rfl ?_
                        refine p_no rfl rfl rfl rfl rfl ?_
                        refine p_val (e_pick_f rfl rfl) rfl ?_
                        refine p_val (e_move (v := .bool _) rfl) rfl ?_
                        refine p_no rfl rfl rfl rfl rfl ?_
                        refine p_no rfl rfl rfl rfl rfl ?_
                        refine p_no rfl rfl rfl rfl rfl ?_
                        refine p_no rfl rfl rfl rfl rfl ?_
                        refine p_val (e_pick_f rfl rfl) rfl ?_
                        refine p_val (e_move (v := .bool _) rfl) rfl ?_
                        refine p_no rfl rfl rfl rfl rfl ?_
                        refine p_no rfl rfl rfl rfl rfl ?_
                        refine p_no rfl rfl rfl rfl rfl ?_
                        refine p_no rfl rfl rfl rfl rfl ?_
                        refine p_val (e_pick_f rfl rfl) rfl ?_
                        refine p_val (e_assign (v := .bool _) rfl) rfl ?_
                        exact p_nil (x_then ⟨_, rfl, _, _, upds_eq ⟨rfl, trivial⟩, by first | (simp only [decide_eq_true_eq, eq_self, true_iff, iff_true, iff_false, Bool.false_eq_true, false_iff, ge_iff_le, gt_iff_lt, true_and, and_true, false_and, and_false, true_or, or_true, false_or, or_false, not_true_eq_false, not_false_eq_true]; omega) | (simp; done) | omega | (simp_all; done), S⟩)
                    · refine p_val (e_pick_t rfl rfl) rfl ?_
                      refine p_val (e_move (v := .bool _) rfl) rfl ?_
                      refine p_no rfl rfl rfl rfl rfl ?_
                      refine p_no rfl rfl rfl rfl rfl ?_
                      refine p_no rfl rfl rfl rfl rfl ?_
                      refine p_no rfl rfl rfl rfl rfl ?_
                      refine p_val (e_pick_f rfl rfl) rfl ?_
                      refine p_val (e_move (v := .bool _) rfl) rfl ?_
                      refine p_no rfl rfl rfl rfl rfl ?_
                      refine p_no rfl rfl rfl rfl rfl ?_
                      refine p_no rfl rfl rfl rfl rfl ?_
                      refine p_no rfl rfl rfl rfl rfl ?_
                      refine p_val (e_pick_f rfl rfl) rfl ?_
                      refine p_val (e_move (v := .bool _) rfl) rfl ?_
                      refine p_no rfl rfl rfl rfl rfl ?_
                      refine p_no rfl rfl rfl rfl rfl ?_
                      refine p_no rfl rfl rfl rfl rfl ?_
                      refine p_no rfl rfl rfl rfl rfl ?_
                      refine p_val (e_pick_f rfl rfl) rfl ?_
                      refine p_val (e_move (v := .bool _) rfl) rfl ?_
                      refine p_no rfl rfl rfl rfl rfl ?_
                      refine p_no rfl rfl rfl rfl rfl ?_
                      refine p_no rfl rfl rfl rfl rfl ?_
                      refine p_no rfl rfl rfl rfl rfl ?_
                      refine p_val (e_pick_f rfl rfl) rfl ?_
                      refine p_val (e_assign (v := .bool _) rfl) rfl ?_
                      exact p_nil (x_then ⟨_, rfl, _, _, upds_eq ⟨rfl, trivial⟩, by first | (simp only [decide_eq_true_eq, eq_self, true_iff, iff_true, iff_false, Bool.false_eq_true, false_iff, ge_iff_le, gt_iff_lt, true_and, and_true, false_and, and_false, true_or, or_true, false_or, or_false, not_true_eq_false, not_false_eq_true]; omega) | (simp; done) | omega | (simp_all; done), S⟩)
                  · refine p_val (e_pick_t rfl rfl) rfl ?_
                    refine p_val (e_move (v := .bool _) rfl) rfl ?_
                    refine p_no rfl rfl rfl rfl rfl ?_
                    refine p_no rfl rfl rfl rfl rfl ?_
                    refine p_no rfl rfl rfl rfl rfl ?_
                    refine p_no rfl rfl rfl rfl rfl ?_
                    refine p_val (e_pick_f rfl rfl) rfl ?_
                    refine p_val (e_move (v := .bool _) rfl) rfl ?_
                    refine p_no rfl rfl rfl rfl rfl ?_
                    refine p_no rfl rfl rfl rfl rfl ?_
                    refine p_no rfl rfl rfl rfl rfl ?_
                    refine p_no rfl rfl rfl rfl rfl ?_
                    refine p_val (e_pick_f rfl rfl) rfl ?_
                    refine p_val (e_move (v := .bool _) rfl) rfl ?_
                    refine p_no rfl rfl rfl rfl rfl ?_
                    refine p_no rfl rfl rfl rfl rfl ?_
                    refine p_no rfl rfl rfl rfl rfl ?_
                    refine p_no rfl rfl rfl rfl rfl ?_
                    refine p_val (e_pick_f rfl rfl) rfl ?_
                    refine p_val (e_move (v := .bool _) rfl) rfl ?_
                    refine p_no rfl rfl rfl rfl rfl ?_
                    refine p_no rfl rfl rfl rfl rfl ?_
                    refine p_no rfl rfl rfl rfl rfl ?_
                    refine p_no rfl rfl rfl rfl rfl ?_
                    refine p_val (e_pick_f rfl rfl) rfl ?_
                    refine p_val (e_move (v := .bool _) rfl) rfl ?_
                    refine p_no rfl rfl rfl rfl rfl ?_
                    refine p_no rfl rfl rfl rfl rfl ?_
                    refine p_no rfl rfl rfl rfl rfl ?_
                    refine p_no rfl rfl rfl rfl rfl ?_
                    refine p_val (e_pick_f rfl rfl) rfl ?_
                    refine p_val (e_assign (v := .bool _) rfl) rfl ?_
                    exact p_nil (x_then ⟨_, rfl, _, _, upds_eq ⟨rfl, trivial⟩, by first | (simp only [decide_eq_true_eq, eq_self, true_iff, iff_true, iff_false, Bool.false_eq_true, false_iff, ge_iff_le, gt_iff_lt, true_and, and_true, false_and, and_false, true_or, or_true, false_or, or_false, not_true_eq_false, not_false_eq_true]; omega) | (simp; done) | omega | (simp_all; done), S⟩)
                · refine p_val (e_pick_t rfl rfl) rfl ?_
                  refine p_val (e_move (v := .bool _) rfl) rfl ?_
                  refine p_no rfl rfl rfl rfl rfl ?_
                  refine p_no rfl rfl rfl rfl rfl ?_
                  refine p_no rfl rfl rfl rfl rfl ?_
                  refine p_no rfl rfl rfl rfl rfl ?_
                  refine p_val (e_pick_f rfl rfl) rfl ?_
                  refine p_val (e_move (v := .bool _) rfl) rfl ?_
                  refine p_no rfl rfl rfl rfl rfl ?_
                  refine p_no rfl rfl rfl rfl rfl ?_
                  refine p_no rfl rfl rfl rfl rfl ?_
                  refine p_no rfl rfl rfl rfl rfl ?_
                  refine p_val (e_pick_f rfl rfl) rfl ?_
                  refine p_val (e_move (v := .bool _) rfl) rfl ?_
                  refine p_no rfl rfl rfl rfl rfl ?_
                  refine p_no rfl rfl rfl rfl rfl ?_
                  refine p_no rfl rfl rfl rfl rfl ?_
                  refine p_no rfl rfl rfl rfl rfl ?_
                  refine p_val (e_pick_f rfl rfl) rfl ?_
                  refine p_val (e_move (v := .bool _) rfl) rfl ?_
                  refine p_no rfl rfl rfl rfl rfl ?_
                  refine p_no rfl rfl rfl rfl rfl ?_
                  refine p_no rfl rfl rfl rfl rfl ?_
                  refine p_no rfl rfl rfl rfl rfl ?_
                  refine p_val (e_pick_f rfl rfl) rfl ?_
                  refine p_val (e_move (v := .bool _) rfl) rfl ?_
                  refine p_no rfl rfl rfl rfl rfl ?_
                  refine p_no rfl rfl rfl rfl rfl ?_
                  refine p_no rfl rfl rfl rfl rfl ?_
                  refine p_no rfl rfl rfl rfl rfl ?_
                  refine p_val (e_pick_f rfl rfl) rfl ?_
                  refine p_val (e_move (v := .bool _) rfl) rfl ?_
                  refine p_no rfl rfl rfl rfl rfl ?_
                  refine p_no rfl rfl rfl rfl rfl ?_
                  refine p_no rfl rfl rfl rfl rfl ?_
                  refine p_no rfl rfl rfl rfl rfl ?_
                  refine p_val (e_pick_f rfl rfl) rfl ?_
                  refine p_val (e_assign (v := .bool _) rfl) rfl ?_
                  exact p_nil (x_then ⟨_, rfl, _, _, upds_eq ⟨rfl, trivial⟩, by first | (simp only [decide_eq_true_eq, eq_self, true_iff, iff_true, iff_false, Bool.false_eq_true, false_iff, ge_iff_le, gt_iff_lt, true_and, and_true, false_and, and_false, true_or, or_true, false_or, or_false, not_true_eq_false, not_false_eq_true]; omega) | (simp; done) | omega | (simp_all; done), S⟩)
              · refine p_val (e_pick_t rfl rfl) rfl ?_
                refine p_val (e_move (v := .bool _) rfl) rfl ?_
                refine p_no rfl rfl rfl rfl rfl ?_
                refine p_no rfl rfl rfl rfl rfl ?_
                refine p_no rfl rfl rfl rfl rfl ?_
                refine p_val (e_pick_f rfl rfl) rfl ?_
                refine p_val (e_move (v := .bool _) rfl) rfl ?_
                refine p_no rfl rfl rfl rfl rfl ?_
                refine p_no rfl rfl rfl rfl rfl ?_
                refine p_no rfl rfl rfl rfl rfl ?_
                refine p_no rfl rfl rfl rfl rfl ?_
                refine p_val (e_pick_f rfl rfl) rfl ?_
                refine p_val (e_move (v := .bool _) rfl) rfl ?_
                refine p_no rfl rfl rfl rfl rfl ?_
                refine p_no rfl rfl rfl rfl rfl ?_
                refine p_no rfl rfl rfl rfl rfl ?_
                refine p_no rfl rfl rfl rfl rfl ?_
                refine p_val (e_pick_f rfl rfl) rfl ?_
                refine p_val (e_move (v := .bool _) rfl) rfl ?_
                refine p_no rfl rfl rfl rfl rfl ?_
                refine p_no rfl rfl rfl rfl rfl ?_
                refine p_no rfl rfl rfl rfl rfl ?_
                refine p_no rfl rfl rfl rfl rfl ?_
                refine p_val (e_pick_f rfl rfl) rfl ?_
                refine p_val (e_move (v := .bool _) rfl) rfl ?_
                refine p_no rfl rfl rfl rfl rfl ?_
                refine p_no rfl rfl rfl rfl rfl ?_
                refine p_no rfl rfl rfl rfl rfl ?_
                refine p_no rfl rfl rfl rfl rfl ?_
                refine p_val (e_pick_f rfl rfl) rfl ?_
                refine p_val (e_move (v := .bool _) rfl) rfl ?_
                refine p_no rfl rfl rfl rfl rfl ?_
                refine p_no rfl rfl rfl rfl rfl ?_
                refine p_no rfl rfl rfl rfl rfl ?_
                refine p_no rfl rfl rfl rfl rfl ?_
                refine p_val (e_pick_f rfl rfl) rfl ?_
                refine p_val (e_move (v := .bool _) rfl) rfl ?_
                refine p_no rfl rfl rfl rfl rfl ?_
                refine p_no rfl rfl rfl rfl rfl ?_
                refine p_no rfl rfl rfl rfl rfl ?_
                refine p_no rfl rfl rfl rfl rfl ?_
                refine p_val (e_pick_f rfl rfl) rfl ?_
                refine p_val (e_assign (v := .bool _) rfl) rfl ?_
                exact p_nil (x_then ⟨_, rfl, _, _, upds_eq ⟨rfl, trivial⟩, by first | (simp only [decide_eq_true_eq, eq_self, true_iff, iff_true, iff_false, Bool.false_eq_true, false_iff, ge_iff_le, gt_iff_lt, true_and, and_true, false_and, and_false, true_or, or_true, false_or, or_false, not_true_eq_false, not_false_eq_true]; omega) | (simp; done) | omega | (simp_all; done), S⟩)
            · refine p_val (e_pick_t rfl rfl) rfl ?_
              refine p_val (e_move (v := .bool _) rfl) rfl ?_
              refine p_no rfl rfl rfl rfl rfl ?_
              refine p_no rfl rfl rfl rfl rfl ?_
              refine p_no rfl rfl rfl rfl rfl ?_
              refine p_val (e_pick_f rfl rfl) rfl ?_
              refine p_val (e_move (v := .bool _) rfl) rfl ?_
              refine p_no rfl rfl rfl rfl rfl ?_
              refine p_no rfl rfl rfl rfl rfl ?_
              refine p_no rfl rfl rfl rfl rfl ?_
              refine p_val (e_pick_f rfl rfl) rfl ?_
              refine p_val (e_move (v := .bool _) rfl) rfl ?_
              refine p_no rfl rfl rfl rfl rfl ?_
              refine p_no rfl rfl rfl rfl rfl ?_
              refine p_no rfl rfl rfl rfl rfl ?_
              refine p_no rfl rfl rfl rfl rfl ?_
              refine p_val (e_pick_f rfl rfl) rfl ?_
              refine p_val (e_move (v := .bool _) rfl) rfl ?_
              refine p_no rfl rfl rfl rfl rfl ?_
              refine p_no rfl rfl rfl rfl rfl ?_
              refine p_no rfl rfl rfl rfl rfl ?_
              refine p_no rfl rfl rfl rfl rfl ?_
              refine p_val (e_pick_f rfl rfl) rfl ?_
              refine p_val (e_move (v := .bool _) rfl) rfl ?_
              refine p_no rfl rfl rfl rfl rfl ?_
              refine p_no rfl rfl rfl rfl rfl ?_
              refine p_no rfl rfl rfl rfl rfl ?_
              refine p_no rfl rfl rfl rfl rfl ?_
              refine p_val (e_pick_f rfl rfl) rfl ?_
              refine p_val (e_move (v := .bool _) rfl) rfl ?_
              refine p_no rfl rfl rfl rfl rfl ?_
              refine p_no rfl rfl rfl rfl rfl ?_
              refine p_no rfl rfl rfl rfl rfl ?_
              refine p_no rfl rfl rfl rfl rfl ?_
              refine p_val (e_pick_f rfl rfl) rfl ?_
              refine p_val (e_move (v := .bool _) rfl) rfl ?_
              refine p_no rfl rfl rfl rfl rfl ?_
              refine p_no rfl rfl rfl rfl rfl ?_
              refine p_no rfl rfl rfl rfl rfl ?_
              refine p_no rfl rfl rfl rfl rfl ?_
              refine p_val (e_pick_f rfl rfl) rfl ?_
              refine p_val (e_move (v := .bool _) rfl) rfl ?_
              refine p_no rfl rfl rfl rfl rfl ?_
              refine p_no rfl rfl rfl rfl rfl ?_
              refine p_no rfl rfl rfl rfl rfl ?_
              refine p_no rfl rfl rfl rfl rfl ?_
              refine p_val (e_pick_f rfl rfl) rfl ?_
              refine p_val (e_assign (v := .bool _) rfl) rfl ?_
              exact p_nil (x_then ⟨_, rfl, _, _, upds_eq ⟨rfl, trivial⟩, by first | (simp only [decide_eq_true_eq, eq_self, true_iff, iff_true, iff_false, Bool.false_eq_true, false_iff, ge_iff_le, gt_iff_lt, true_and, and_true, false_and, and_false, true_or, or_true, false_or, or_false, not_true_eq_false, not_false_eq_true]; omega) | (simp; done) | omega | (simp_all; done), S⟩)
          · refine p_val (e_pick_t rfl rfl) rfl ?_
            refine p_val (e_move (v := .bool _) rfl) rfl ?_
            refine p_no rfl rfl rfl rfl rfl ?_
            refine p_no rfl rfl rfl rfl rfl ?_
            refine p_no rfl rfl rfl rfl rfl ?_
            refine p_val (e_pick_f rfl rfl) rfl ?_
            refine p_val (e_move (v := .bool _) rfl) rfl ?_
            refine p_no rfl rfl rfl rfl rfl ?_
            refine p_no rfl rfl rfl rfl rfl ?_
            refine p_no rfl rfl rfl rfl rfl ?_
            refine p_val (e_pick_f rfl rfl) rfl ?_
            refine p_val (e_move (v := .bool _) rfl) rfl ?_
            refine p_no rfl rfl rfl rfl rfl ?_
            refine p_no rfl rfl rfl rfl rfl ?_
            refine p_no rfl rfl rfl rfl rfl ?_
            refine p_val (e_pick_f rfl rfl) rfl ?_
            refine p_val (e_move (v := .bool _) rfl) rfl ?_
            refine p_no rfl rfl rfl rfl rfl ?_
            refine p_no rfl rfl rfl rfl rfl ?_
            refine p_no rfl rfl rfl rfl rfl ?_
            refine p_no rfl rfl rfl rfl rfl ?_
            refine p_val (e_pick_f rfl rfl) rfl ?_
            refine p_val (e_move (v := .bool _) rfl) rfl ?_
            refine p_no rfl rfl rfl rfl rfl ?_
            refine p_no rfl rfl rfl rfl rfl ?_
            refine p_no rfl rfl rfl rfl rfl ?_
            refine p_no rfl rfl rfl rfl rfl ?_
            refine p_val (e_pick_f rfl rfl) rfl ?_
            refine p_val (e_move (v := .bool _) rfl) rfl ?_
            refine p_no rfl rfl rfl rfl rfl ?_
            refine p_no rfl rfl rfl rfl rfl ?_
            refine p_no rfl rfl rfl rfl rfl ?_
            refine p_no rfl rfl rfl rfl rfl ?_
            refine p_val (e_pick_f rfl rfl) rfl ?_
            refine p_val (e_move (v := .bool _) rfl) rfl ?_
            refine p_no rfl rfl rfl rfl rfl ?_
            refine p_no rfl rfl rfl rfl rfl ?_
            refine p_no rfl rfl rfl rfl rfl ?_
            refine p_no rfl rfl rfl rfl rfl ?_
            refine p_val (e_pick_f rfl rfl) rfl ?_
            refine p_val (e_move (v := .bool _) rfl) rfl ?_
            refine p_no rfl rfl rfl rfl rfl ?_
            refine p_no rfl rfl rfl rfl rfl ?_
            refine p_no rfl rfl rfl rfl rfl ?_
            refine p_no rfl rfl rfl rfl rfl ?_
            refine p_val (e_pick_f rfl rfl) rfl ?_
            refine p_val (e_move (v := .bool _) rfl) rfl ?_
            refine p_no rfl rfl rfl rfl rfl ?_
            refine p_no rfl rfl rfl rfl rfl ?_
            refine p_no rfl rfl rfl rfl rfl ?_
            refine p_no rfl rfl rfl rfl rfl ?_
            refine p_val (e_pick_f rfl rfl) rfl ?_
            refine p_val (e_assign (v := .bool _) rfl) rfl ?_
            exact p_nil (x_then ⟨_, rfl, _, _, upds_eq ⟨rfl, trivial⟩, by first | (simp only [decide_eq_true_eq, eq_self, true_iff, iff_true, iff_false, Bool.false_eq_true, false_iff, ge_iff_le, gt_iff_lt, true_and, and_true, false_and, and_false, true_or, or_true, false_or, or_false, not_true_eq_false, not_false_eq_true]; omega) | (simp; done) | omega | (simp_all; done), S⟩)
        · skip
          have hp6 := mt hb6.2 (by decide)
          refine p_val (e_move (v := .bool _) rfl) rfl ?_
          refine p_val (e_move (v := .bool _) rfl) rfl ?_
          refine p_no rfl rfl rfl rfl rfl ?_
          refine p_no rfl rfl rfl rfl rfl ?_
          refine p_no rfl rfl rfl rfl rfl ?_
          refine p_val (e_pick_f rfl rfl) rfl ?_
          refine p_val (e_move (v := .bool _) rfl) rfl ?_
          refine p_no rfl rfl rfl rfl rfl ?_
          refine p_no rfl rfl rfl rfl rfl ?_
          refine p_no rfl rfl rfl rfl rfl ?_
          refine p_val (e_pick_f rfl rfl) rfl ?_
          refine p_val (e_move (v := .bool _) rfl) rfl ?_
          refine p_no rfl rfl rfl rfl rfl ?_
          refine p_no rfl rfl rfl rfl rfl ?_
          refine p_no rfl rfl rfl rfl rfl ?_
          refine p_val (e_pick_f rfl rfl) rfl ?_
          refine p_val (e_move (v := .bool _) rfl) rfl ?_
          refine p_no rfl rfl rfl rfl rfl ?_
          refine p_no rfl rfl rfl rfl rfl ?_
          refine p_no rfl rfl rfl rfl rfl ?_
          refine p_val (e_pick_f rfl rfl) rfl ?_
          refine p_val (e_move (v := .bool _) rfl) rfl ?_
          refine p_no rfl rfl rfl rfl rfl ?_
          refine p_no rfl rfl rfl rfl rfl ?_
          refine p_no rfl rfl rfl rfl rfl ?_
          refine p_no rfl rfl rfl rfl rfl ?_
          refine p_val (e_pick_f rfl rfl) rfl ?_
          refine p_val (e_move (v := .bool _) rfl) rfl ?_
          refine p_no rfl rfl rfl rfl rfl ?_
          refine p_no rfl rfl rfl rfl rfl ?_
          refine p_no rfl rfl rfl rfl rfl ?_
          refine p_no rfl rfl rfl rfl rfl ?_
          refine p_val (e_pick_f rfl rfl) rfl ?_
          refine p_val (e_move (v := .bool _) rfl) rfl ?_
          refine p_no rfl rfl rfl rfl rfl ?_
          refine p_no rfl rfl rfl rfl rfl ?_
          refine p_no rfl rfl rfl rfl rfl ?_
          refine p_no rfl rfl rfl rfl rfl ?_
          refine p_val (e_pick_f rfl rfl) rfl ?_
          refine p_val (e_move (v := .bool _) rfl) rfl ?_
          refine p_no rfl rfl rfl rfl rfl ?_
          refine p_no rfl rfl rfl rfl rfl ?_
          refine p_no rfl rfl rfl rfl rfl ?_
          refine p_no rfl rfl rfl rfl rfl ?_
          refine p_val (e_pick_f rfl rfl) rfl ?_
          refine p_val (e_move (v := .bool _) rfl) rfl ?_
          refine p_no rfl rfl rfl rfl rfl ?_
          refine p_no rfl rfl rfl rfl rfl ?_
          refine p_no rfl rfl rfl rfl rfl ?_
          refine p_no rfl rfl rfl rfl rfl ?_
          refine p_val (e_pick_f rfl rfl) rfl ?_
          refine p_val (e_move (v := .bool _) rfl) rfl ?_
          refine p_no rfl rfl rfl rfl rfl ?_
          refine p_no rfl rfl rfl rfl rfl ?_
          refine p_no rfl rfl rfl rfl rfl ?_
          refine p_no rfl rfl rfl rfl rfl ?_
          refine p_val (e_pick_f rfl rfl) rfl ?_
          refine p_val (e_assign (v := .bool _) rfl) rfl ?_
          exact p_nil (x_then ⟨_, rfl, _, _, upds_eq ⟨rfl, trivial⟩, by first | (simp only [decide_eq_true_eq, eq_self, true_iff, iff_true, iff_false, Bool.false_eq_true, false_iff, ge_iff_le, gt_iff_lt, true_and, and_true, false_and, and_false, true_or, or_true, false_or, or_false, not_true_eq_false, not_false_eq_true]; omega) | (simp; done) | omega | (simp_all; done), S⟩)
      · rintro f w ⟨u, b2, rfl, hb2, S⟩
        refine x_then (s_ret ?_)
        exact post1 (v := .bool _) Try.results49 rfl (⟨by rw [Value.bool.injEq, Bool.eq_iff_iff, hb2, decide_eq_true_eq]; unfold Msg.plain; omega, S.to_below⟩)
end Go.Proofs.Ytcgcjklpilbndaa
