/- Own texts, one behind the other: walks and laws that the statement needs. They prove no statement by themselves. -/
import Derived.Test.YtcgcjklpilbndaaZP29b5
import Derived.Test.YtcgcjklpilbndaaZP29b1
/- Nets looked at, walked. It proves no statement by itself. -/
set_option linter.unusedSimpArgs false
set_option linter.unusedVariables false
set_option maxRecDepth 100000
set_option maxHeartbeats 1000000
namespace Go.Proofs.Ytcgcjklpilbndaa
open Go Go.RowKit E
attribute [local irreducible] wpList seqH treeH
def LtOk (w : World) (bs : List Nat) (x : Lt) : Prop := x.b.xs.length = x.b.n ∧ x.b.n ≤ 1000000 ∧ Rd w 1 x.b.A x.b.n (bv x.b.xs) ∧ Off x.b.A x.b.n bs
def lt0 : Lt := ⟨0, ⟨none, 0, 0, []⟩⟩
theorem lt0_ok (w : World) (bs : List Nat) : LtOk w bs lt0 := ⟨rfl, by decide, Rd.nil _ _ _, Off.none_⟩
theorem sl_clone_n (w0 : World) (A : Option Addr) (n c : Nat) (l : List Nat) (hl : l.length = n) (R : Rd w0 1 A n (bv l)) (hn : n ≤ 1000000000) :
     Ret Try.prog 64 [.slice A n c] w0 fun v w' => ∃ k c, v = .slice (at_ k) n c ∧ St w0 w' [] [k] [Rw 5 1 n c (bv l)] := by
  subst hl; exact sl_clone w0 A c l R hn
/-- what lies at a place -/
def pk (X : List Lt) (i : Int) : Lt := if 0 ≤ i ∧ i < (X.length : Int) then X.getD i.toNat lt0 else lt0
def pkE (X : List Lt) (i : Int) : Int := if 0 ≤ i ∧ i < (X.length : Int) then 0 else 7
theorem nt_len (w0 : World) (hb : Nat) (k : Option Nat) (c : Nat) (X : List Lt) (lost : Int) (S0 : St w0 w0 (exOf [some hb, k]) [some hb, k] [netE k c X lost, netR c X]) :
    Ret Try.prog 33 [.pointer (some ⟨hb, 0, none⟩)] w0 fun v w' => v = .int .i64 (X.length : Int) ∧ St w0 w' (exOf [some hb, k]) [some hb, k] [netE k c X lost, netR c X] := by
  refine enter Try.func33 rfl Try.ntmps33 (Nat.le_of_ble_eq_true rfl) ?_
  have S := S0
  refine s_seq (s_plain ?_)
  refine p_val (e_assign (v := .int _ _) rfl) rfl ?_
  refine p_nil (x_then (s_seq (s_seq (s_plain ?_))))
  refine p_val (e_move (v := .pointer _) rfl) rfl ?_
  refine p_val (e_eqlP rfl rfl Try.underlying69) rfl ?_
  refine p_nil (x_then ?_)
  refine s_condb rfl (fun hc4 => ?_) (fun hc4 => ?_)
  · exact False.elim (by simp at hc4)
  · refine s_skip (x_then (s_seq (s_plain ?_)))
    refine p_val (e_move (v := .pointer _) rfl) rfl ?_
    refine p_val (e_nil rfl rfl) rfl ?_
    refine p_val (e_field rfl Try.underlying72 rfl sz70 (by decide)) rfl ?_
    refine p_val (e_loadF1 (i := 0) (off := 0) rfl ag70 S (j := 0) rfl rfl rfl (by first | with_reducible assumption | (rw [bv_length]; with_reducible assumption) | (rw [List.size_toArray, bv_length]; with_reducible assumption) | (simp [cat]; done) | (simp [cat]; omega) | rfl)) rfl ?_
    refine p_val (e_len rfl Try.underlying70) rfl ?_
    refine p_val (e_assign (v := .int _ _) rfl) rfl ?_
    refine p_nil (x_then (s_ret ?_))
    exact post1 (v := .int _ _) Try.results33 rfl (⟨rfl, S.pk [0, 1] rfl⟩)
theorem nt_len_nil (w0 : World) :
    Ret Try.prog 33 [.pointer none] w0 fun v w' => v = .int .i64 0 ∧ Below w0.heap.size w0 w' := by
  refine enter Try.func33 rfl Try.ntmps33 (Nat.le_of_ble_eq_true rfl) ?_
  have S := St.init w0
  refine s_seq (s_plain ?_)
  refine p_val (e_assign (v := .int _ _) rfl) rfl ?_
  refine p_nil (x_then (s_seq (s_seq (s_plain ?_))))
  refine p_val (e_move (v := .pointer _) rfl) rfl ?_
  refine p_val (e_eqlP rfl rfl Try.underlying69) rfl ?_
  refine p_nil (x_then ?_)
  refine s_condb rfl (fun hc4 => ?_) (fun hc4 => ?_)
  · refine s_seq (s_plain ?_)
    refine p_val (e_assign (v := .int _ _) rfl) rfl ?_
    refine p_nil (x_then (s_ret (x_then_ret ?_)))
    exact post1 (v := .int _ _) Try.results33 rfl (⟨rfl, S.to_below⟩)
  · exact False.elim (by simp at hc4)
theorem nt_lost (w0 : World) (hb : Nat) (k : Option Nat) (c : Nat) (X : List Lt) (lost : Int) (S0 : St w0 w0 (exOf [some hb, k]) [some hb, k] [netE k c X lost, netR c X]) :
    Ret Try.prog 34 [.pointer (some ⟨hb, 0, none⟩)] w0 fun v w' => v = .int .i64 lost ∧ St w0 w' (exOf [some hb, k]) [some hb, k] [netE k c X lost, netR c X] := by
  refine enter Try.func34 rfl Try.ntmps34 (Nat.le_of_ble_eq_true rfl) ?_
  have S := S0
  refine s_seq (s_plain ?_)
  refine p_val (e_assign (v := .int _ _) rfl) rfl ?_
  refine p_nil (x_then (s_seq (s_seq (s_plain ?_))))
  refine p_val (e_move (v := .pointer _) rfl) rfl ?_
  refine p_val (e_eqlP rfl rfl Try.underlying69) rfl ?_
  refine p_nil (x_then ?_)
  refine s_condb rfl (fun hc4 => ?_) (fun hc4 => ?_)
  · exact False.elim (by simp at hc4)
  · refine s_skip (x_then (s_seq (s_plain ?_)))
    refine p_val (e_move (v := .pointer _) rfl) rfl ?_
    refine p_val (e_nil rfl rfl) rfl ?_
    refine p_val (e_field rfl Try.underlying72 rfl sz3 (by decide)) rfl ?_
    refine p_val (e_loadF1 (i := 1) (off := 1) rfl ag3 S (j := 0) rfl rfl rfl (by first | with_reducible assumption | (rw [bv_length]; with_reducible assumption) | (rw [List.size_toArray, bv_length]; with_reducible assumption) | (simp [cat]; done) | (simp [cat]; omega) | rfl)) rfl ?_
    refine p_val (e_assign (v := .int _ _) rfl) rfl ?_
    refine p_nil (x_then (s_ret ?_))
    exact post1 (v := .int _ _) Try.results34 rfl (⟨rfl, S.pk [0, 1] rfl⟩)
theorem nt_lost_nil (w0 : World) :
    Ret Try.prog 34 [.pointer none] w0 fun v w' => v = .int .i64 0 ∧ Below w0.heap.size w0 w' := by
  refine enter Try.func34 rfl Try.ntmps34 (Nat.le_of_ble_eq_true rfl) ?_
  have S := St.init w0
  refine s_seq (s_plain ?_)
  refine p_val (e_assign (v := .int _ _) rfl) rfl ?_
  refine p_nil (x_then (s_seq (s_seq (s_plain ?_))))
  refine p_val (e_move (v := .pointer _) rfl) rfl ?_
  refine p_val (e_eqlP rfl rfl Try.underlying69) rfl ?_
  refine p_nil (x_then ?_)
  refine s_condb rfl (fun hc4 => ?_) (fun hc4 => ?_)
  · refine s_seq (s_plain ?_)
    refine p_val (e_assign (v := .int _ _) rfl) rfl ?_
    refine p_nil (x_then (s_ret (x_then_ret ?_)))
    exact post1 (v := .int _ _) Try.results34 rfl (⟨rfl, S.to_below⟩)
  · exact False.elim (by simp at hc4)
theorem nt_throw_nil (w0 : World) (t : Int) (A : Option Addr) (n c : Nat) :
    Ret Try.prog 39 [.pointer none, .int .i64 t, .slice A n c] w0 fun v w' => v = .tuple #[] ∧ Below w0.heap.size w0 w' := by
  refine enter Try.func39 rfl Try.ntmps39 (Nat.le_of_ble_eq_true rfl) ?_
  have S := St.init w0
  refine s_seq (s_plain ?_)
  refine p_val (e_move (v := .pointer _) rfl) rfl ?_
  refine p_val (e_neqP rfl rfl Try.underlying69) rfl ?_
  refine p_nil (x_then ?_)
  refine s_condb rfl (fun hc7 => ?_) (fun hc7 => ?_)
  · exact False.elim (by simp at hc7)
  · refine s_skip (post_end ?_)
    exact post0 Try.results39 (⟨rfl, S.to_below⟩)
theorem nt_send_nil (w0 : World) (A : Option Addr) (n c : Nat) :
    Ret Try.prog 38 [.pointer none, .slice A n c] w0 fun v w' => v = .tuple #[] ∧ Below w0.heap.size w0 w' := by
  refine enter Try.func38 rfl Try.ntmps38 (Nat.le_of_ble_eq_true rfl) ?_
  have S := St.init w0
  refine s_seq (s_seq (s_plain ?_))
  refine p_val (e_move (v := .pointer _) rfl) rfl ?_
  refine p_val (e_eqlP rfl rfl Try.underlying69) rfl ?_
  refine p_nil (x_then ?_)
  refine s_condb rfl (fun hc9 => ?_) (fun hc9 => ?_)
  · refine s_ret (x_then_ret ?_)
    exact post0 Try.results38 (⟨rfl, S.to_below⟩)
  · exact False.elim (by simp at hc9)
theorem nt_throw (w0 : World) (hb : Nat) (k : Option Nat) (c : Nat) (X : List Lt) (lost : Int) (S0 : St w0 w0 (exOf [some hb, k]) [some hb, k] [netE k c X lost, netR c X]) (hX : X.length ≤ 64) (h0 : 0 ≤ lost) (h1 : lost ≤ 1000000000) (t : Int) (A : Option Addr) (n x1 : Nat) (l : List Nat) (hl : l.length = n) (R : Rd w0 1 A n (bv l)) (oR : Off A n (exOf [some hb, k])) (hn : n ≤ 1000000) :
    Ret Try.prog 39 [.pointer (some ⟨hb, 0, none⟩), .int .i64 t, .slice A n x1] w0 fun v w' => v = .tuple #[] ∧ ∃ k' c' k2 c2, St w0 w' (exOf [some hb, k]) [k2, some hb, k'] [Rw 5 1 n c2 (bv l), netE k' c' (nX X ⟨t, ⟨at_ k2, n, c2, l⟩⟩ (decide ((n : Int) ≤ 65536))) (nL X lost (decide ((n : Int) ≤ 65536))), netR c' (nX X ⟨t, ⟨at_ k2, n, c2, l⟩⟩ (decide ((n : Int) ≤ 65536)))] := by
  refine enter Try.func39 rfl Try.ntmps39 (Nat.le_of_ble_eq_true rfl) ?_
  have S := S0
  subst hl
  refine s_seq (s_plain ?_)
  refine p_val (e_move (v := .pointer _) rfl) rfl ?_
  refine p_val (e_neqP rfl rfl Try.underlying69) rfl ?_
  refine p_nil (x_then ?_)
  refine s_condb rfl (fun hc7 => ?_) (fun hc7 => ?_)
  · refine s_plain ?_
    refine p_val (e_move (v := .pointer _) rfl) rfl ?_
    refine p_val (e_move (v := .int _ _) rfl) rfl ?_
    refine p_val (e_move (v := .slice _ _ _) rfl) rfl ?_
    refine p_does (d_call Try.func64 nm64 rfl rfl (sl_clone _ _ _ _ (S.rdOff R oR) (by omega))) rfl ?_
    rintro _ w ⟨k11, c11, rfl, T⟩
    have S := S.merge T rfl
    refine p_val (e_buildS bt90 (Eq.trans (fill_cat (v := .int _ _) (l' := [[_]]) 0 1 rfl (rfl) (by first | with_reducible assumption | (rw [bv_length]; with_reducible assumption) | (rw [List.size_toArray, bv_length]; with_reducible assumption) | (simp [cat, ltC]; done) | (simp [cat, ltC]; omega) | rfl) (by first | with_reducible assumption | (rw [bv_length]; with_reducible assumption) | (rw [List.size_toArray, bv_length]; with_reducible assumption) | (simp [cat, ltC]; done) | (simp [cat, ltC]; omega) | rfl) (by first | with_reducible assumption | (rw [bv_length]; with_reducible assumption) | (rw [List.size_toArray, bv_length]; with_reducible assumption) | (simp [cat, ltC]; done) | (simp [cat, ltC]; omega) | rfl)) (Eq.trans (fill_cat (v := .slice _ _ _) (l' := [[_]]) 1 1 rfl (rfl) (by first | with_reducible assumption | (rw [bv_length]; with_reducible assumption) | (rw [List.size_toArray, bv_length]; with_reducible assumption) | (simp [cat, ltC]; done) | (simp [cat, ltC]; omega) | rfl) (by first | with_reducible assumption | (rw [bv_length]; with_reducible assumption) | (rw [List.size_toArray, bv_length]; with_reducible assumption) | (simp [cat, ltC]; done) | (simp [cat, ltC]; omega) | rfl) (by first | with_reducible assumption | (rw [bv_length]; with_reducible assumption) | (rw [List.size_toArray, bv_length]; with_reducible assumption) | (simp [cat, ltC]; done) | (simp [cat, ltC]; omega) | rfl)) rfl))) rfl ?_
    refine p_val (e_move (v := .slice _ _ _) rfl) rfl ?_
    refine p_val (e_len rfl Try.underlying47) rfl ?_
    refine p_val (e_leq rfl rfl) rfl ?_
    refine p_does (d_call Try.func65 nm65 rfl rfl (nt_put _ hb k c X lost ⟨t, ⟨at_ k11, l.length, c11, l⟩⟩ (decide ((l.length : Int) ≤ 65536)) (S.hr [1, 2] rfl) hX h0 h1)) rfl ?_
    rintro _ w ⟨rfl, k16, c16, T⟩
    have S := (S.call [1, 2] T rfl).pk [2, 0, 1] rfl
    refine p_nil (post_end ?_)
    exact post0 Try.results39 (⟨rfl, _, _, _, _, S.pk [0, 1, 2] rfl⟩)
  · exact False.elim (by simp at hc7)
theorem pk_in {X : List Lt} {i : Int} {x : Lt} (h : 0 ≤ i ∧ i < (X.length : Int)) (hx : X[i.toNat]? = some x) : pk X i = x ∧ pkE X i = 0 := by
  refine ⟨?_, if_pos h⟩
  unfold pk; rw [if_pos h, List.getD_eq_getElem?_getD, hx]; rfl
theorem pk_out {X : List Lt} {i : Int} (h : ¬ (0 ≤ i ∧ i < (X.length : Int))) : pk X i = lt0 ∧ pkE X i = 7 := ⟨if_neg h, if_neg h⟩
theorem nt_peek_nil (w0 : World) (i : Int) :
    Ret Try.prog 36 [.pointer none, .int .i64 i] w0 fun v w' => v = .tuple #[.agg (cat (ltC lt0)).toArray, .int .i64 7] ∧ Below w0.heap.size w0 w' := by
  refine enter Try.func36 rfl Try.ntmps36 (Nat.le_of_ble_eq_true rfl) ?_
  have S := St.init w0
  refine s_seq (s_plain ?_)
  refine p_does (d_allocA S zs90) rfl ?_
  rintro _ w ⟨b4, rfl, S⟩
  refine p_val (e_assign (v := .int _ _) rfl) rfl ?_
  refine p_nil (x_then (s_seq (s_seq ?_)))
  refine s_cutK (ks := [some b4]) (ps := [Ex _ _]) [(0, .pointer _), (1, .int _ _), (4, .pointer _)] ⟨rfl, rfl, rfl, trivial⟩ S (fun keep ks ps f' w' => ∃ u bb, f' = upds u ((14, .bool bb) :: keep) ∧ (bb = true ↔ ((i < (0 : Int)) ∨ (0 ≤ i))) ∧ St w0 w' [] ks ps) ?_ ?_
  · refine s_plain ?_
    refine p_val (e_move (v := .int _ _) rfl) rfl ?_
    refine p_valB (e_lss rfl rfl) rfl (fun hg8 => ?_) (fun hg8 => ?_)
    · refine p_val (e_move (v := .bool _) rfl) rfl ?_
      refine p_no rfl rfl rfl rfl rfl ?_
      refine p_no rfl rfl rfl rfl rfl ?_
      refine p_no rfl rfl rfl rfl rfl ?_
      refine p_no rfl rfl rfl rfl rfl ?_
      refine p_val (e_pick_t rfl rfl) rfl ?_
      exact p_nil (x_then ⟨_, rfl, _, _, upds_eq ⟨rfl, rfl, rfl, rfl, trivial⟩, by first | (simp only [decide_eq_true_eq, eq_self, true_iff, iff_true, iff_false, Bool.false_eq_true, false_iff, ge_iff_le, gt_iff_lt, true_and, and_true, false_and, and_false, true_or, or_true, false_or, or_false, not_true_eq_false, not_false_eq_true]; omega) | (simp; done) | omega | (simp_all; done), S⟩)
    · refine p_val (e_move (v := .bool _) rfl) rfl ?_
      refine pg_val rfl rfl rfl rfl rfl (e_move (v := .int _ _) rfl) ?_
      refine pg_val rfl rfl rfl rfl rfl (e_move (v := .pointer _) rfl) ?_
      refine pg_does rfl rfl rfl rfl rfl (d_call Try.func33 nm33 rfl rfl (nt_len_nil _)) ?_
      rintro _ w ⟨rfl, hB⟩
      have S := S.below hB
      refine pg_val rfl rfl rfl rfl rfl (e_geq rfl rfl) ?_
      refine p_val (e_pick_f rfl rfl) rfl ?_
      exact p_nil (x_then ⟨_, rfl, _, _, upds_eq ⟨rfl, rfl, rfl, rfl, trivial⟩, by first | (simp only [decide_eq_true_eq, eq_self, true_iff, iff_true, iff_false, Bool.false_eq_true, false_iff, ge_iff_le, gt_iff_lt, true_and, and_true, false_and, and_false, true_or, or_true, false_or, or_false, not_true_eq_false, not_false_eq_true]; omega) | (simp; done) | omega | (simp_all; done), S⟩)
  · rintro f w ⟨u, b14, rfl, hb14, S⟩
    refine x_then ?_
    refine s_condb rfl (fun hc14 => ?_) (fun hc14 => ?_)
    · have hp14 : ((i < (0 : Int)) ∨ (0 ≤ i)) := hb14.1 hc14
      refine s_seq (s_plain ?_)
      refine p_val (e_buildS0 bt90) rfl ?_
      refine p_does (d_storeW S 0 rfl rfl (by first | exact bv_one _ | exact sv_one _ | exact iv_one _ | with_reducible assumption | (refine One.mem ?_; repeat (first | exact One.bv _ | exact One.sv _ | exact One.iv _ | exact One.nil | exact One.cat0 | refine One.cat1 ?_ ?_ | refine One.cons rfl ?_ | refine One.append ?_ ?_))) sz90 (by first | with_reducible assumption | (rw [bv_length]; with_reducible assumption) | (rw [List.size_toArray, bv_length]; with_reducible assumption) | (simp [cat]; done) | (simp [cat]; omega) | rfl) rfl rfl (by first | with_reducible assumption | (rw [bv_length]; with_reducible assumption) | (rw [List.size_toArray, bv_length]; with_reducible assumption) | (simp [cat]; done) | (simp [cat]; omega) | rfl)) rfl ?_
      intro _ w S
      refine p_val (e_assign (v := .int _ _) rfl) rfl ?_
      refine p_nil (x_then (s_ret (x_then_ret ?_)))
      exact postC1 (v := .int _ _) Try.results36 S 0 rfl rfl rfl rfl ag90 sz90 (by first | with_reducible assumption | (rw [bv_length]; with_reducible assumption) | (rw [List.size_toArray, bv_length]; with_reducible assumption) | (simp [cat]; done) | (simp [cat]; omega) | rfl) (⟨rfl, S.to_below⟩)
    · exact False.elim ((fun (hp14 : ¬ ((i < (0 : Int)) ∨ (0 ≤ i))) => by omega) (fun h => by rw [hb14.2 h] at hc14; cases hc14))
theorem nt_peek (w0 : World) (hb : Nat) (k : Option Nat) (c : Nat) (X : List Lt) (lost : Int) (S0 : St w0 w0 (exOf [some hb, k]) [some hb, k] [netE k c X lost, netR c X]) (hX : ∀ x ∈ X, LtOk w0 (exOf [some hb, k]) x) (i : Int) :
    Ret Try.prog 36 [.pointer (some ⟨hb, 0, none⟩), .int .i64 i] w0 fun v w' => ∃ k2 c2, v = .tuple #[.agg (cat (ltC ⟨(pk X i).to, ⟨at_ k2, (pk X i).b.n, c2, (pk X i).b.xs⟩⟩)).toArray, .int .i64 (pkE X i)] ∧ St w0 w' (exOf [some hb, k]) [k2, some hb, k] [Rw 5 1 (pk X i).b.n c2 (bv (pk X i).b.xs), netE k c X lost, netR c X] := by
  refine enter Try.func36 rfl Try.ntmps36 (Nat.le_of_ble_eq_true rfl) ?_
  have S := S0
  refine s_seq (s_plain ?_)
  refine p_does (d_allocA S zs90) rfl ?_
  rintro _ w ⟨b4, rfl, S⟩
  refine p_val (e_assign (v := .int _ _) rfl) rfl ?_
  refine p_nil (x_then (s_seq (s_seq ?_)))
  refine s_cutK (ks := [some b4, some hb, k]) (ps := [Ex _ _, Ex _ _, Rw _ _ _ _ _]) [(0, .pointer _), (1, .int _ _), (4, .pointer _)] ⟨rfl, rfl, rfl, trivial⟩ S (fun keep ks ps f' w' => ∃ u bb, f' = upds u ((14, .bool bb) :: keep) ∧ (bb = true ↔ (i < 0 ∨ (X.length : Int) ≤ i)) ∧ St w0 w' (exOf [some hb, k]) ks ps) ?_ ?_
  · refine s_plain ?_
    refine p_val (e_move (v := .int _ _) rfl) rfl ?_
    refine p_valB (e_lss rfl rfl) rfl (fun hg8 => ?_) (fun hg8 => ?_)
    · refine p_val (e_move (v := .bool _) rfl) rfl ?_
      refine p_no rfl rfl rfl rfl rfl ?_
      refine p_no rfl rfl rfl rfl rfl ?_
      refine p_no rfl rfl rfl rfl rfl ?_
      refine p_no rfl rfl rfl rfl rfl ?_
      refine p_val (e_pick_t rfl rfl) rfl ?_
      exact p_nil (x_then ⟨_, rfl, _, _, upds_eq ⟨rfl, rfl, rfl, rfl, trivial⟩, by first | (simp only [decide_eq_true_eq, eq_self, true_iff, iff_true, iff_false, Bool.false_eq_true, false_iff, ge_iff_le, gt_iff_lt, true_and, and_true, false_and, and_false, true_or, or_true, false_or, or_false, not_true_eq_false, not_false_eq_true]; omega) | (simp; done) | omega | (simp_all; done), S⟩)
    · refine p_val (e_move (v := .bool _) rfl) rfl ?_
      refine pg_val rfl rfl rfl rfl rfl (e_move (v := .int _ _) rfl) ?_
      refine pg_val rfl rfl rfl rfl rfl (e_move (v := .pointer _) rfl) ?_
      refine pg_does rfl rfl rfl rfl rfl (d_call Try.func33 nm33 rfl rfl (nt_len _ _ _ _ _ _ (S.hr [1, 2] rfl))) ?_
      rintro _ w ⟨rfl, T⟩
      have S := (S.call [1, 2] T rfl).pk [2, 0, 1] rfl
      refine pg_val rfl rfl rfl rfl rfl (e_geq rfl rfl) ?_
      refine p_val (e_pick_f rfl rfl) rfl ?_
      exact p_nil (x_then ⟨_, rfl, _, _, upds_eq ⟨rfl, rfl, rfl, rfl, trivial⟩, by first | (simp only [decide_eq_true_eq, eq_self, true_iff, iff_true, iff_false, Bool.false_eq_true, false_iff, ge_iff_le, gt_iff_lt, true_and, and_true, false_and, and_false, true_or, or_true, false_or, or_false, not_true_eq_false, not_false_eq_true]; omega) | (simp; done) | omega | (simp_all; done), S⟩)
  · rintro f w ⟨u, b14, rfl, hb14, S⟩
    refine x_then ?_
    refine s_condb rfl (fun hc14 => ?_) (fun hc14 => ?_)
    · have hp14 : (i < 0 ∨ (X.length : Int) ≤ i) := hb14.1 hc14
      refine s_seq (s_plain ?_)
      refine p_val (e_buildS0 bt90) rfl ?_
      refine p_does (d_storeW S 0 rfl rfl (by first | exact bv_one _ | exact sv_one _ | exact iv_one _ | with_reducible assumption | (refine One.mem ?_; repeat (first | exact One.bv _ | exact One.sv _ | exact One.iv _ | exact One.nil | exact One.cat0 | refine One.cat1 ?_ ?_ | refine One.cons rfl ?_ | refine One.append ?_ ?_))) sz90 (by first | with_reducible assumption | (rw [bv_length]; with_reducible assumption) | (rw [List.size_toArray, bv_length]; with_reducible assumption) | (simp [cat, ltC, Value.cells, zc90]; done) | (simp [cat, ltC, Value.cells, zc90]; omega) | rfl) rfl rfl (by first | with_reducible assumption | (rw [bv_length]; with_reducible assumption) | (rw [List.size_toArray, bv_length]; with_reducible assumption) | (simp [cat, ltC, Value.cells, zc90]; done) | (simp [cat, ltC, Value.cells, zc90]; omega) | rfl)) rfl ?_
      intro _ w S
      refine p_val (e_assign (v := .int _ _) rfl) rfl ?_
      refine p_nil (x_then (s_ret (x_then_ret ?_)))
      exact postC1 (v := .int _ _) Try.results36 S 0 rfl rfl rfl rfl ag90 sz90 (by first | with_reducible assumption | (rw [bv_length]; with_reducible assumption) | (rw [List.size_toArray, bv_length]; with_reducible assumption) | (simp [cat, ltC, Value.cells, zc90]; done) | (simp [cat, ltC, Value.cells, zc90]; omega) | rfl) (by obtain ⟨e1, e2⟩ := pk_out (X := X) (i := i) (by omega); rw [e1, e2]; exact ⟨none, 0, rfl, (S.addNil 5 1).pk [0, 1 + 1, 2 + 1] rfl⟩)
    · have hp14 : ¬ (i < 0 ∨ (X.length : Int) ≤ i) := fun h => by rw [hb14.2 h] at hc14; cases hc14
      obtain ⟨x, hat0, hxm⟩ := some_at (n := X.length) rfl (g := i.toNat) (by omega)
      have hat : X[i.toNat]? = some x := hat0
      obtain ⟨e1, e2⟩ := pk_in (X := X) (i := i) (by omega) hat
      obtain ⟨q1, q2, RX, oX⟩ := hX x hxm
      refine s_skip (x_then (s_seq (s_plain ?_)))
      refine p_val (e_move (v := .pointer _) rfl) rfl ?_
      refine p_val (e_nil rfl rfl) rfl ?_
      refine p_val (e_field rfl Try.underlying72 rfl sz70 (by decide)) rfl ?_
      refine p_val (e_loadF1 (i := 0) (off := 0) rfl ag70 S (j := 1) rfl rfl rfl (by first | with_reducible assumption | (rw [bv_length]; with_reducible assumption) | (rw [List.size_toArray, bv_length]; with_reducible assumption) | (simp [cat, ltC, Value.cells, zc90]; done) | (simp [cat, ltC, Value.cells, zc90]; omega) | rfl)) rfl ?_
      refine p_val (e_move (v := .int _ _) rfl) rfl ?_
      refine p_val (e_ixR (S.rdRw 2 rfl rfl) (by decide) rfl rfl Try.underlying70 sz90 (by omega)) rfl ?_
      refine p_val (e_loadRA rfl ag90 sz90 (by decide) ((Rd.elemA (S.rdRw 2 rfl rfl) (fun x _ => rfl) (hat)))) rfl ?_
      refine p_does (d_allocA S zs90) rfl ?_
      rintro _ w ⟨b6, rfl, S⟩
      refine p_does (d_storeW S 0 rfl rfl (by first | exact bv_one _ | exact sv_one _ | exact iv_one _ | with_reducible assumption | (refine One.mem ?_; repeat (first | exact One.bv _ | exact One.sv _ | exact One.iv _ | exact One.nil | exact One.cat0 | refine One.cat1 ?_ ?_ | refine One.cons rfl ?_ | refine One.append ?_ ?_))) sz90 (by first | with_reducible assumption | (rw [bv_length]; with_reducible assumption) | (rw [List.size_toArray, bv_length]; with_reducible assumption) | (simp [cat, ltC, Value.cells, zc90]; done) | (simp [cat, ltC, Value.cells, zc90]; omega) | rfl) rfl rfl (by first | with_reducible assumption | (rw [bv_length]; with_reducible assumption) | (rw [List.size_toArray, bv_length]; with_reducible assumption) | (simp [cat, ltC, Value.cells, zc90]; done) | (simp [cat, ltC, Value.cells, zc90]; omega) | rfl)) rfl ?_
      intro _ w S
      refine p_nil (x_then (s_seq (s_plain ?_)))
      refine p_val (e_field rfl Try.underlying90 rfl sz47 (by decide)) rfl ?_
      refine p_val (e_loadF1 (i := 1) (off := 1) rfl ag47 S (j := 0) rfl rfl rfl (by first | with_reducible assumption | (rw [bv_length]; with_reducible assumption) | (rw [List.size_toArray, bv_length]; with_reducible assumption) | (simp [cat, ltC, Value.cells, zc90]; done) | (simp [cat, ltC, Value.cells, zc90]; omega) | rfl)) rfl ?_
      refine p_does (d_call Try.func64 nm64 rfl rfl (sl_clone_n _ x.b.A x.b.n x.b.c x.b.xs q1 (S.rdOff RX oX) (by omega))) rfl ?_
      rintro _ w ⟨k25, c25, rfl, T⟩
      have S := S.merge T rfl
      refine p_val (e_field rfl Try.underlying90 rfl sz47 (by decide)) rfl ?_
      refine p_does (d_storeF1 (v := .slice _ _ _) (off := 1) S 1 1 rfl rfl rfl sz47 rfl rfl rfl (by first | with_reducible assumption | (rw [bv_length]; with_reducible assumption) | (rw [List.size_toArray, bv_length]; with_reducible assumption) | (simp [cat, ltC, Value.cells, zc90]; done) | (simp [cat, ltC, Value.cells, zc90]; omega) | rfl)) rfl ?_
      intro _ w S
      refine p_nil (x_then (s_seq (s_plain ?_)))
      refine p_val (e_loadW 1 rfl ag90 sz90 S rfl rfl (by first | with_reducible assumption | (rw [bv_length]; with_reducible assumption) | (rw [List.size_toArray, bv_length]; with_reducible assumption) | (simp [cat, ltC, Value.cells, zc90]; done) | (simp [cat, ltC, Value.cells, zc90]; omega) | rfl)) rfl ?_
      refine p_does (d_storeW S 2 rfl rfl (by first | exact bv_one _ | exact sv_one _ | exact iv_one _ | with_reducible assumption | (refine One.mem ?_; repeat (first | exact One.bv _ | exact One.sv _ | exact One.iv _ | exact One.nil | exact One.cat0 | refine One.cat1 ?_ ?_ | refine One.cons rfl ?_ | refine One.append ?_ ?_))) sz90 (by first | with_reducible assumption | (rw [bv_length]; with_reducible assumption) | (rw [List.size_toArray, bv_length]; with_reducible assumption) | (simp [cat, ltC, Value.cells, zc90]; done) | (simp [cat, ltC, Value.cells, zc90]; omega) | rfl) rfl rfl (by first | with_reducible assumption | (rw [bv_length]; with_reducible assumption) | (rw [List.size_toArray, bv_length]; with_reducible assumption) | (simp [cat, ltC, Value.cells, zc90]; done) | (simp [cat, ltC, Value.cells, zc90]; omega) | rfl)) rfl ?_
      intro _ w S
      refine p_val (e_assign (v := .int _ _) rfl) rfl ?_
      refine p_nil (x_then (s_ret ?_))
      exact postC1 (v := .int _ _) Try.results36 S 2 rfl rfl rfl rfl ag90 sz90 (by first | with_reducible assumption | (rw [bv_length]; with_reducible assumption) | (rw [List.size_toArray, bv_length]; with_reducible assumption) | (simp [cat, ltC, Value.cells, zc90]; done) | (simp [cat, ltC, Value.cells, zc90]; omega) | rfl) (by rw [e1, e2]; exact ⟨_, _, rfl, S.pk [0, 3, 4] rfl⟩)
end Go.Proofs.Ytcgcjklpilbndaa

/- Nets that are nil; letters for somebody. It proves no statement by itself. -/
set_option linter.unusedSimpArgs false
set_option linter.unusedVariables false
set_option maxRecDepth 100000
set_option maxHeartbeats 1000000
namespace Go.Proofs.Ytcgcjklpilbndaa
open Go Go.RowKit E
attribute [local irreducible] wpList seqH treeH
def forL (X : List Lt) (t : Int) (g : Nat) : List Int := ((List.range g).filter (fun i => decide ((X.getD i lt0).to = t))).map (fun i : Nat => (i : Int))
theorem getD_at {X : List Lt} {g : Nat} {x : Lt} (h : X[g]? = some x) : X.getD g lt0 = x := by rw [List.getD_eq_getElem?_getD, h]; rfl
theorem forL_yes {X : List Lt} {t : Int} {g : Nat} {x : Lt} (h : X[g]? = some x) (ht : x.to = t) : forL X t (g + 1) = forL X t g ++ [(g : Int)] := by
  unfold forL
  rw [List.range_succ, List.filter_append, List.map_append, List.filter_cons, List.filter_nil, getD_at h, decide_eq_true ht]; rfl
theorem forL_no {X : List Lt} {t : Int} {g : Nat} {x : Lt} (h : X[g]? = some x) (ht : ¬ x.to = t) : forL X t (g + 1) = forL X t g := by
  unfold forL
  rw [List.range_succ, List.filter_append, List.map_append, List.filter_cons, List.filter_nil, getD_at h, decide_eq_false ht]; simp
theorem forL_le (X : List Lt) (t : Int) (g : Nat) : (forL X t g).length ≤ g := by
  unfold forL
  rw [List.length_map]
  exact Nat.le_trans (List.length_filter_le _ _) (by simp)
theorem nt_take_nil (w0 : World) (i : Int) :
    Ret Try.prog 40 [.pointer none, .int .i64 i] w0 fun v w' => v = .tuple #[.agg (cat (ltC lt0)).toArray, .int .i64 7] ∧ Below w0.heap.size w0 w' := by
  refine enter Try.func40 rfl Try.ntmps40 (Nat.le_of_ble_eq_true rfl) ?_
  have S := St.init w0
  refine s_seq (s_plain ?_)
  refine p_does (d_allocA S zs90) rfl ?_
  rintro _ w ⟨b4, rfl, S⟩
  refine p_val (e_assign (v := .int _ _) rfl) rfl ?_
  refine p_nil (x_then (s_seq (s_plain ?_)))
  refine p_val (e_move (v := .pointer _) rfl) rfl ?_
  refine p_val (e_move (v := .int _ _) rfl) rfl ?_
  refine p_does (d_call Try.func36 nm36 rfl rfl (nt_peek_nil _ _)) rfl ?_
  rintro _ w ⟨rfl, hB⟩
  have S := S.below hB
  refine p_val (e_move (v := .tuple _) rfl) rfl ?_
  refine p_val (e_extract rfl rfl) rfl ?_
  refine p_val (e_extract rfl rfl) rfl ?_
  refine p_does (d_allocA S zs90) rfl ?_
  rintro _ w ⟨b6, rfl, S⟩
  refine p_does (d_storeW S 0 rfl rfl (by first | exact bv_one _ | exact sv_one _ | exact iv_one _ | with_reducible assumption | (refine One.mem ?_; repeat (first | exact One.bv _ | exact One.sv _ | exact One.iv _ | exact One.nil | exact One.cat0 | refine One.cat1 ?_ ?_ | refine One.cons rfl ?_ | refine One.append ?_ ?_))) sz90 (by first | with_reducible assumption | (rw [bv_length]; with_reducible assumption) | (rw [List.size_toArray, bv_length]; with_reducible assumption) | (simp [cat, ltC, Value.cells, zc90]; done) | (simp [cat, ltC, Value.cells, zc90]; omega) | rfl) rfl rfl (by first | with_reducible assumption | (rw [bv_length]; with_reducible assumption) | (rw [List.size_toArray, bv_length]; with_reducible assumption) | (simp [cat, ltC, Value.cells, zc90]; done) | (simp [cat, ltC, Value.cells, zc90]; omega) | rfl)) rfl ?_
  intro _ w S
  refine p_val (e_assign (v := .int _ _) rfl) rfl ?_
  refine p_nil (x_then (s_seq ?_))
  refine s_cutK (ks := [some b6, some b4]) (ps := [Ex _ _, Ex _ _]) [(4, .pointer _), (6, .pointer _), (7, .int _ _)] ⟨rfl, rfl, rfl, trivial⟩ S (fun keep ks ps f' w' => ∃ u, f' = upds u (keep) ∧ St w0 w' [] [some b6, some b4] [(ps.getD 0 fun _ => True), (ps.getD 1 fun _ => True)]) ?_ ?_
  · refine s_seq (s_plain ?_)
    refine p_val (e_move (v := .int _ _) rfl) rfl ?_
    refine p_val (e_eql rfl rfl) rfl ?_
    refine p_nil (x_then ?_)
    refine s_cond rfl (fun hc15 => ?_) (fun hc15 => ?_)
    · exact False.elim (by cases hc15)
    · refine s_skip ?_
      exact x_then ⟨_, rfl, _, upds_eq ⟨rfl, rfl, rfl, trivial⟩, S⟩
  · rintro f w ⟨u, rfl, S⟩
    refine x_then (s_seq (s_plain ?_))
    refine p_val (e_loadW 0 rfl ag90 sz90 S rfl rfl (by first | with_reducible assumption | (rw [bv_length]; with_reducible assumption) | (rw [List.size_toArray, bv_length]; with_reducible assumption) | (simp [cat, ltC, Value.cells, zc90]; done) | (simp [cat, ltC, Value.cells, zc90]; omega) | rfl)) rfl ?_
    refine p_val (e_move (v := .int _ _) rfl) rfl ?_
    refine p_does (d_storeW S 1 rfl rfl (by first | exact bv_one _ | exact sv_one _ | exact iv_one _ | with_reducible assumption | (refine One.mem ?_; repeat (first | exact One.bv _ | exact One.sv _ | exact One.iv _ | exact One.nil | exact One.cat0 | refine One.cat1 ?_ ?_ | refine One.cons rfl ?_ | refine One.append ?_ ?_))) sz90 (by first | with_reducible assumption | (rw [bv_length]; with_reducible assumption) | (rw [List.size_toArray, bv_length]; with_reducible assumption) | (simp [cat, ltC, Value.cells, zc90]; done) | (simp [cat, ltC, Value.cells, zc90]; omega) | rfl) rfl rfl (by first | with_reducible assumption | (rw [bv_length]; with_reducible assumption) | (rw [List.size_toArray, bv_length]; with_reducible assumption) | (simp [cat, ltC, Value.cells, zc90]; done) | (simp [cat, ltC, Value.cells, zc90]; omega) | rfl)) rfl ?_
    intro _ w S
    refine p_val (e_assign (v := .int _ _) rfl) rfl ?_
    refine p_nil (x_then (s_ret ?_))
    exact postC1 (v := .int _ _) Try.results40 S 1 rfl rfl rfl rfl ag90 sz90 (by first | with_reducible assumption | (rw [bv_length]; with_reducible assumption) | (rw [List.size_toArray, bv_length]; with_reducible assumption) | (simp [cat, ltC, Value.cells, zc90]; done) | (simp [cat, ltC, Value.cells, zc90]; omega) | rfl) (⟨rfl, S.to_below⟩)
theorem nt_lose_nil (w0 : World) (i : Int) :
    Ret Try.prog 41 [.pointer none, .int .i64 i] w0 fun v w' => v = .int .i64 7 ∧ Below w0.heap.size w0 w' := by
  refine enter Try.func41 rfl Try.ntmps41 (Nat.le_of_ble_eq_true rfl) ?_
  have S := St.init w0
  refine s_seq (s_plain ?_)
  refine p_val (e_assign (v := .int _ _) rfl) rfl ?_
  refine p_nil (x_then (s_seq (s_plain ?_)))
  refine p_val (e_move (v := .pointer _) rfl) rfl ?_
  refine p_val (e_move (v := .int _ _) rfl) rfl ?_
  refine p_does (d_call Try.func40 nm40 rfl rfl (nt_take_nil _ _)) rfl ?_
  rintro _ w ⟨rfl, hB⟩
  have S := S.below hB
  refine p_val (e_move (v := .tuple _) rfl) rfl ?_
  refine p_val (e_extract rfl rfl) rfl ?_
  refine p_val (e_extract rfl rfl) rfl ?_
  refine p_does (d_allocA S zs90) rfl ?_
  rintro _ w ⟨b5, rfl, S⟩
  refine p_does (d_storeW S 0 rfl rfl (by first | exact bv_one _ | exact sv_one _ | exact iv_one _ | with_reducible assumption | (refine One.mem ?_; repeat (first | exact One.bv _ | exact One.sv _ | exact One.iv _ | exact One.nil | exact One.cat0 | refine One.cat1 ?_ ?_ | refine One.cons rfl ?_ | refine One.append ?_ ?_))) sz90 (by first | with_reducible assumption | (rw [bv_length]; with_reducible assumption) | (rw [List.size_toArray, bv_length]; with_reducible assumption) | (simp [cat, ltC, Value.cells, zc90]; done) | (simp [cat, ltC, Value.cells, zc90]; omega) | rfl) rfl rfl (by first | with_reducible assumption | (rw [bv_length]; with_reducible assumption) | (rw [List.size_toArray, bv_length]; with_reducible assumption) | (simp [cat, ltC, Value.cells, zc90]; done) | (simp [cat, ltC, Value.cells, zc90]; omega) | rfl)) rfl ?_
  intro _ w S
  refine p_val (e_assign (v := .int _ _) rfl) rfl ?_
  refine p_nil (x_then (s_seq ?_))
  refine s_cutK (ks := [some b5]) (ps := [Ex _ _]) [(6, .int _ _)] ⟨rfl, trivial⟩ S (fun keep ks ps f' w' => ∃ u, f' = upds u (keep) ∧ St w0 w' [] [some b5] [(ps.getD 0 fun _ => True)]) ?_ ?_
  · refine s_seq (s_plain ?_)
    refine p_val (e_move (v := .int _ _) rfl) rfl ?_
    refine p_val (e_eql rfl rfl) rfl ?_
    refine p_nil (x_then ?_)
    refine s_cond rfl (fun hc14 => ?_) (fun hc14 => ?_)
    · exact False.elim (by cases hc14)
    · refine s_skip ?_
      exact x_then ⟨_, rfl, _, upds_eq ⟨rfl, trivial⟩, S⟩
  · rintro f w ⟨u, rfl, S⟩
    refine x_then (s_seq (s_plain ?_))
    refine p_val (e_move (v := .int _ _) rfl) rfl ?_
    refine p_val (e_assign (v := .int _ _) rfl) rfl ?_
    refine p_nil (x_then (s_ret ?_))
    exact post1 (v := .int _ _) Try.results41 rfl (⟨rfl, S.to_below⟩)
theorem nt_twice_nil (w0 : World) (i : Int) :
    Ret Try.prog 42 [.pointer none, .int .i64 i] w0 fun v w' => v = .int .i64 7 ∧ Below w0.heap.size w0 w' := by
  refine enter Try.func42 rfl Try.ntmps42 (Nat.le_of_ble_eq_true rfl) ?_
  have S := St.init w0
  refine s_seq (s_plain ?_)
  refine p_val (e_assign (v := .int _ _) rfl) rfl ?_
  refine p_nil (x_then (s_seq (s_plain ?_)))
  refine p_val (e_move (v := .pointer _) rfl) rfl ?_
  refine p_val (e_move (v := .int _ _) rfl) rfl ?_
  refine p_does (d_call Try.func36 nm36 rfl rfl (nt_peek_nil _ _)) rfl ?_
  rintro _ w ⟨rfl, hB⟩
  have S := S.below hB
  refine p_val (e_move (v := .tuple _) rfl) rfl ?_
  refine p_val (e_extract rfl rfl) rfl ?_
  refine p_val (e_extract rfl rfl) rfl ?_
  refine p_does (d_allocA S zs90) rfl ?_
  rintro _ w ⟨b5, rfl, S⟩
  refine p_does (d_storeW S 0 rfl rfl (by first | exact bv_one _ | exact sv_one _ | exact iv_one _ | with_reducible assumption | (refine One.mem ?_; repeat (first | exact One.bv _ | exact One.sv _ | exact One.iv _ | exact One.nil | exact One.cat0 | refine One.cat1 ?_ ?_ | refine One.cons rfl ?_ | refine One.append ?_ ?_))) sz90 (by first | with_reducible assumption | (rw [bv_length]; with_reducible assumption) | (rw [List.size_toArray, bv_length]; with_reducible assumption) | (simp [cat, ltC, Value.cells, zc90]; done) | (simp [cat, ltC, Value.cells, zc90]; omega) | rfl) rfl rfl (by first | with_reducible assumption | (rw [bv_length]; with_reducible assumption) | (rw [List.size_toArray, bv_length]; with_reducible assumption) | (simp [cat, ltC, Value.cells, zc90]; done) | (simp [cat, ltC, Value.cells, zc90]; omega) | rfl)) rfl ?_
  intro _ w S
  refine p_val (e_assign (v := .int _ _) rfl) rfl ?_
  refine p_nil (x_then (s_seq ?_))
  refine s_cutK (ks := [some b5]) (ps := [Ex _ _]) [(6, .int _ _)] ⟨rfl, trivial⟩ S (fun keep ks ps f' w' => ∃ u, f' = upds u (keep) ∧ St w0 w' [] [some b5] [(ps.getD 0 fun _ => True)]) ?_ ?_
  · refine s_seq (s_plain ?_)
    refine p_val (e_move (v := .int _ _) rfl) rfl ?_
    refine p_val (e_eql rfl rfl) rfl ?_
    refine p_nil (x_then ?_)
    refine s_cond rfl (fun hc14 => ?_) (fun hc14 => ?_)
    · exact False.elim (by cases hc14)
    · refine s_skip ?_
      exact x_then ⟨_, rfl, _, upds_eq ⟨rfl, trivial⟩, S⟩
  · rintro f w ⟨u, rfl, S⟩
    refine x_then (s_seq (s_plain ?_))
    refine p_val (e_move (v := .int _ _) rfl) rfl ?_
    refine p_val (e_assign (v := .int _ _) rfl) rfl ?_
    refine p_nil (x_then (s_ret ?_))
    exact post1 (v := .int _ _) Try.results42 rfl (⟨rfl, S.to_below⟩)
theorem nt_for (w0 : World) (hb : Nat) (k : Option Nat) (c : Nat) (X : List Lt) (lost : Int) (S0 : St w0 w0 (exOf [some hb, k]) [some hb, k] [netE k c X lost, netR c X]) (hX : X.length ≤ 64) (t : Int) :
    Ret Try.prog 35 [.pointer (some ⟨hb, 0, none⟩), .int .i64 t] w0 fun v w' => ∃ k2 c2, v = .slice (at_ k2) (forL X t X.length).length c2 ∧ St w0 w' (exOf [some hb, k]) [k2, some hb, k] [Rw 3 1 (forL X t X.length).length c2 (iv (forL X t X.length)), netE k c X lost, netR c X] := by
  refine enter Try.func35 rfl Try.ntmps35 (Nat.le_of_ble_eq_true rfl) ?_
  have S := S0
  refine s_seq (s_plain ?_)
  refine p_val (e_assign (v := .slice _ _ _) rfl) rfl ?_
  refine p_nil (x_then (s_seq (s_plain ?_)))
  refine p_val (e_assign (v := .slice _ _ _) rfl) rfl ?_
  refine p_nil (x_then (s_seq (s_seq (s_plain ?_))))
  refine p_val (e_move (v := .pointer _) rfl) rfl ?_
  refine p_does (d_call Try.func33 nm33 rfl rfl (nt_len _ _ _ _ _ _ (S.hr [0, 1] rfl))) rfl ?_
  rintro _ w ⟨rfl, T⟩
  have S := (S.call [0, 1] T rfl).pk [0, 1] rfl
  refine p_val (e_move (v := .int _ _) rfl) rfl ?_
  refine p_nil (x_then (s_block ?_))
  have S := S.addNil 3 1
  refine s_loopK (α := Nat) (ks := [none, some hb, k]) (ps := [Rw _ _ _ _ _, Ex _ _, Rw _ _ _ _ _]) [(0, .pointer _), (1, .int _ _), (8, .int _ _)] ⟨rfl, rfl, rfl, trivial⟩ S (fun keep ks ps g f' w' => ∃ u Kk5 Ck5 m xs, f' = upds u ((5, .slice (at_ Kk5) (m) Ck5) :: (9, .int .i64 (g : Int)) :: keep) ∧ (g ≤ X.length) ∧ (m = (forL X t g).length) ∧ (xs = iv (forL X t g)) ∧ St w0 w' (exOf [some hb, k]) [Kk5, some hb, k] [Rw 3 1 (m) Ck5 (xs), (ps.getD 1 fun _ => True), (ps.getD 2 fun _ => True)]) (fun g => X.length - g) (0) (⟨_, _, _, _, _, upds_eq ⟨rfl, rfl, rfl, rfl, rfl, trivial⟩, by first | omega | rfl | with_reducible assumption | (simp; done) | (simp; omega), by first | omega | rfl | with_reducible assumption | (simp; done) | (simp; omega), by first | omega | rfl | with_reducible assumption | (simp; done) | (simp; omega), S⟩) ?_
  rintro g f w ⟨u, Kk5, Ck5, m, xs, rfl, hg, rfl, rfl, S⟩
  refine s_seq (s_plain ?_)
  refine p_val (e_lss rfl rfl) rfl ?_
  refine p_nil (x_then (s_seq ?_))
  refine s_cond rfl (fun hc10 => ?_) (fun hc10 => ?_)
  · obtain ⟨x, hat0, hxm⟩ := some_at (n := X.length) rfl (g := g) (by omega)
    have hat : X[(g : Int).toNat]? = some x := hat0
    have hfl := forL_le X t g
    refine s_skip (x_then (s_seq ?_))
    refine s_cutK (ks := [Kk5, some hb, k]) (ps := [Rw _ _ _ _ _, Ex _ _, Rw _ _ _ _ _]) [(0, .pointer _), (1, .int _ _), (8, .int _ _), (9, .int _ _)] ⟨rfl, rfl, rfl, rfl, trivial⟩ S (fun keep ks ps f' w' => ∃ u Kk5 Ck5 m2 xs2, f' = upds u ((5, .slice (at_ Kk5) (m2) Ck5) :: keep) ∧ (m2 = (forL X t (g + 1)).length) ∧ (xs2 = iv (forL X t (g + 1))) ∧ St w0 w' (exOf [some hb, k]) [Kk5, some hb, k] [Rw 3 1 (m2) Ck5 (xs2), (ps.getD 1 fun _ => True), (ps.getD 2 fun _ => True)]) ?_ ?_
    · refine s_block (s_seq (s_plain ?_))
      refine p_val (e_move (v := .int _ _) rfl) rfl ?_
      refine p_val (e_assign (v := .int _ _) rfl) rfl ?_
      refine p_nil (x_then (s_seq (s_plain ?_)))
      refine p_val (e_move (v := .pointer _) rfl) rfl ?_
      refine p_val (e_nil rfl rfl) rfl ?_
      refine p_val (e_field rfl Try.underlying72 rfl sz70 (by decide)) rfl ?_
      refine p_val (e_loadF1 (i := 0) (off := 0) rfl ag70 S (j := 1) rfl rfl rfl (by first | with_reducible assumption | (rw [bv_length]; with_reducible assumption) | (rw [List.size_toArray, bv_length]; with_reducible assumption) | (simp [cat, ltC]; done) | (simp [cat, ltC]; omega) | rfl)) rfl ?_
      refine p_val (e_move (v := .int _ _) rfl) rfl ?_
      refine p_val (e_ixR (S.rdRw 2 rfl rfl) (by decide) rfl rfl Try.underlying70 sz90 (by omega)) rfl ?_
      refine p_val (e_fieldR (Rd.elemA (S.rdRw 2 rfl rfl) (fun x _ => rfl) (hat)) (by decide) rfl Try.underlying90 rfl sz3 (by decide)) rfl ?_
      refine p_val (e_loadR1 rfl ag3 ((Rd.part1 (Rd.elemA (S.rdRw 2 rfl rfl) (fun x _ => rfl) (hat)) 0 rfl (off := 0) (by first | with_reducible assumption | (rw [bv_length]; with_reducible assumption) | (rw [List.size_toArray, bv_length]; with_reducible assumption) | (simp [cat, ltC]; done) | (simp [cat, ltC]; omega) | rfl) (by first | with_reducible assumption | (rw [bv_length]; with_reducible assumption) | (rw [List.size_toArray, bv_length]; with_reducible assumption) | (simp [cat, ltC]; done) | (simp [cat, ltC]; omega) | rfl)))) rfl ?_
      refine p_val (e_move (v := .int _ _) rfl) rfl ?_
      refine p_val (e_eql rfl rfl) rfl ?_
      refine p_nil (x_then ?_)
      refine s_cond rfl (fun hc21 => ?_) (fun hc21 => ?_)
      · refine s_plain ?_
        refine p_val (e_move (v := .slice _ _ _) rfl) rfl ?_
        refine p_val (e_move (v := .int _ _) rfl) rfl ?_
        refine p_does (d_litI S Try.underlying31 sz3 zv3 rfl (l := [_]) rfl rfl (by decide)) rfl ?_
        rintro _ w ⟨b24, rfl, S⟩
        refine p_does (d_append S 1 rfl rfl Try.underlying31 el3 rfl rfl (S.rdRw 0 rfl rfl) (by first | exact bv_one _ | exact sv_one _ | exact iv_one _ | with_reducible assumption | (refine One.mem ?_; repeat (first | exact One.bv _ | exact One.sv _ | exact One.iv _ | exact One.nil | exact One.cat0 | refine One.cat1 ?_ ?_ | refine One.cons rfl ?_ | refine One.append ?_ ?_))) (by first | omega | (simp only [List.length_append, List.length_cons, List.length_nil, bv_length, ltC]; omega) | (simp [cat, ltC]; omega)) (by unfold maxLen; first | omega | (simp only [List.length_append, List.length_cons, List.length_nil, bv_length, ltC]; omega))) rfl ?_
        rintro _ w ⟨k25, c25, rfl, S⟩
        refine p_val (e_assign (v := .slice _ _ _) rfl) rfl ?_
        refine p_nil (x_in ?_)
        exact x_then ⟨_, rfl, _, _, _, _, _, upds_eq ⟨rfl, rfl, rfl, rfl, rfl, trivial⟩, by rw [forL_yes hat0 hc21, List.length_append]; rfl, by rw [forL_yes hat0 hc21]; simp [iv], S.pk [1, 2, 3] rfl⟩
      · refine s_skip (x_in ?_)
        exact x_then ⟨_, rfl, _, _, _, _, _, upds_eq ⟨rfl, rfl, rfl, rfl, rfl, trivial⟩, by rw [forL_no hat0 hc21], by rw [forL_no hat0 hc21], S⟩
    · rintro f w ⟨u, Kk5, Ck5, m2, xs2, rfl, rfl, rfl, S⟩
      refine x_then (s_plain ?_)
      refine p_val (e_add64 rfl rfl (by omega)) rfl ?_
      refine p_val (e_move (v := .int _ _) rfl) rfl ?_
      refine p_nil ?_
      refine x_round (g + 1) _ rfl ⟨_, _, _, _, _, upds_eq ⟨rfl, rfl, rfl, rfl, rfl, trivial⟩, by first | omega | rfl | with_reducible assumption | (simp; done) | (simp; omega), by first | omega | rfl | with_reducible assumption | (simp; done) | (simp; omega), by first | omega | rfl | with_reducible assumption | (simp; done) | (simp; omega), S⟩ (by omega)
  · refine s_exit (x_then_exit (x_then_exit (x_in_same (x_then (s_seq (s_plain ?_))))))
    refine p_val (e_move (v := .slice _ _ _) rfl) rfl ?_
    refine p_val (e_assign (v := .slice _ _ _) rfl) rfl ?_
    refine p_nil (x_then (s_ret ?_))
    exact post1 (v := .slice _ _ _) Try.results35 rfl (by obtain rfl : g = X.length := (by omega); exact ⟨_, _, rfl, S.pk [0, 1, 2] rfl⟩)
end Go.Proofs.Ytcgcjklpilbndaa

/- Loops that go a known number of rounds, each walked. It proves no statement by itself. -/
set_option linter.unusedSimpArgs false
set_option linter.unusedVariables false
namespace Go.Proofs.Ytcgcjklpilbndaa.E
open Go Go.RowKit
section
variable {P : Program} {Q : Exit → Act → World → Prop} {w : World} {c : Code} {n m : Nat} {f : Nat → Value}
def Times (P : Program) (c : Code) (Q : Exit → Act → World → Prop) (n : Nat) : Nat → (Nat → Value) → World → Prop
  | 0, _, _ => False
  | m + 1, f, w => c.wp P (Exit.then (fun a' w' => ∃ f', a' = F n f' ∧ Times P c Q n m f' w') Q) (F n f) w
theorem w_succ (h : c.wp P (Exit.then (fun a' w' => ∃ f', a' = F n f' ∧ Times P c Q n m f' w') Q) (F n f) w) : Times P c Q n (m + 1) f w := h
theorem x_times (h : Times P c Q n m f w) : Exit.then (fun a' w' => ∃ f', a' = F n f' ∧ Times P c Q n m f' w') Q .normal (F n f) w := ⟨f, rfl, h⟩
theorem s_times (m : Nat) (h : Times P c Q n m f w) : (Code.loop c).wp P Q (F n f) w :=
  s_loop (n := n) (fun m f w => Times P c Q n m f w) (fun m => m) m h fun m f w hJ => by
    cases m with
    | zero => exact hJ.elim
    | succ m =>
      refine Code.wp_mono (fun e a w h => ?_) hJ
      cases e with
      | normal => obtain ⟨f', ha, hT⟩ := h; exact ⟨m, f', ha, hT, Nat.lt_succ_self m⟩
      | _ => exact h
end
end Go.Proofs.Ytcgcjklpilbndaa.E

/- Messages sent. It proves no statement by itself. -/
set_option linter.unusedSimpArgs false
set_option linter.unusedVariables false
set_option maxRecDepth 100000
set_option maxHeartbeats 1000000
namespace Go.Proofs.Ytcgcjklpilbndaa
open Go Go.RowKit E
attribute [local irreducible] wpList seqH treeH
theorem tk_put_n (w0 : World) (m : Msg) (A1 : Option Addr) (n1 x1 : Nat) (b : List Nat) (e1 : b.length = n1) (A2 : Option Addr) (n2 x2 : Nat) (s : List Nat) (e2 : s.length = n2) (hm : m.ok) (RB : Rd w0 1 A1 n1 (bv b)) (RS : Rd w0 1 A2 n2 (bv s)) (nB : n1 ≤ 1000000) (nS : n2 ≤ 1000000) :
     Ret Try.prog 44 [.agg (cat (msgC m A1 n1 x1 A2 n2 x2)).toArray] w0 fun v w' => ∃ k c o e, v = .tuple #[.slice (at_ k) (List.length o) c, .int .i64 e] ∧ (m.right → o = tput m b s ∧ e = 0) ∧ (¬ m.right → o = [] ∧ e = 1) ∧ St w0 w' [] [k] [Rw 5 1 (List.length o) c (bv o)] := by
  subst e1 e2; exact tk_put w0 m A1 x1 b A2 x2 s hm RB RS (by omega) (by omega)
def SlG (w : World) (bs : List Nat) (x : Sl Nat) : Prop := x.xs.length = x.n ∧ x.n ≤ 1000000 ∧ Rd w 1 x.A x.n (bv x.xs) ∧ Off x.A x.n bs
/-- a message that may be sent -/
def MsgG (w : World) (bs : List Nat) (y : MsgV) : Prop := y.m.ok ∧ SlG w bs y.b ∧ SlG w bs y.s
theorem msgV_len {y : MsgV} (h : y.m.ok) : (msgV y).length = 239 := by simp [msgV, msgC, jbC, sgdC, rcpC, cat, h.h0, h.h1, h.go, h.sec, h.j, h.rh, h.rb]
theorem one_msgV (y : MsgV) : One (msgV y) := by
  intro v hv
  simp [msgV, msgC, jbC, sgdC, rcpC, cat] at hv
  rcases hv with rfl | rfl | rfl | rfl | rfl | rfl | hv | hv | rfl | hv | rfl | hv | rfl | rfl | hv | rfl | rfl | rfl | rfl | hv | hv | rfl <;> first | rfl | exact bv_one _ _ hv
theorem nt_send1 (w0 : World) (hb : Nat) (k : Option Nat) (c : Nat) (X : List Lt) (lost : Int) (S0 : St w0 w0 (exOf [some hb, k]) [some hb, k] [netE k c X lost, netR c X]) (hX : X.length ≤ 64) (h0 : 0 ≤ lost) (h1 : lost ≤ 1000000000) (y : MsgV) (A : Option Addr) (x1 : Nat) (hy : MsgG w0 (exOf [some hb, k]) y) (R : Rd w0 239 A 1 ([y].flatMap msgV)) (oR : Off A 1 (exOf [some hb, k])) :
    Ret Try.prog 38 [.pointer (some ⟨hb, 0, none⟩), .slice A 1 x1] w0 fun v w' => v = .tuple #[] ∧ ∃ k' c' k2 c2 o e, (y.m.right → o = tput y.m y.b.xs y.s.xs ∧ e = (0 : Int)) ∧ (¬ y.m.right → o = [] ∧ e = (1 : Int)) ∧ St w0 w' (exOf [some hb, k]) [k2, some hb, k'] [Rw 5 1 (List.length o) c2 (bv o), netE k' c' (nX X ⟨y.m.t, ⟨at_ k2, List.length o, c2, o⟩⟩ (decide (e = 0))) (nL X lost (decide (e = 0))), netR c' (nX X ⟨y.m.t, ⟨at_ k2, List.length o, c2, o⟩⟩ (decide (e = 0)))] := by
  refine enter Try.func38 rfl Try.ntmps38 (Nat.le_of_ble_eq_true rfl) ?_
  have S := S0
  obtain ⟨hm, ⟨q1, q2, RB, oB⟩, p1, p2, RS, oS⟩ := hy
  refine s_seq (s_seq (s_plain ?_))
  refine p_val (e_move (v := .pointer _) rfl) rfl ?_
  refine p_val (e_eqlP rfl rfl Try.underlying69) rfl ?_
  refine p_nil (x_then ?_)
  refine s_condb rfl (fun hc9 => ?_) (fun hc9 => ?_)
  · exact False.elim (by simp at hc9)
  · refine s_skip (x_then (s_seq (s_plain ?_)))
    refine p_val (e_move (v := .slice _ _ _) rfl) rfl ?_
    refine p_val (e_len rfl Try.underlying121) rfl ?_
    refine p_val (e_move (v := .int _ _) rfl) rfl ?_
    refine p_nil (x_then (s_block ?_))
    refine s_times 2 ?_
    refine w_succ ?_
    refine s_seq (s_plain ?_)
    refine p_val (e_lss rfl rfl) rfl ?_
    refine p_nil (x_then (s_seq ?_))
    refine s_cond rfl (fun hc13 => ?_) (fun hc13 => ?_)
    · refine s_skip (x_then (s_seq (s_block (s_seq (s_plain ?_)))))
      refine p_val (e_ixR (S.rdOff R oR) (by decide) rfl rfl Try.underlying121 sz84 (by omega)) rfl ?_
      refine p_val (e_loadRA rfl ag84 sz84 (by decide) ((Rd.elemA (S.rdOff R oR) (fun x hx => by rw [List.mem_singleton.1 hx]; exact msgV_len hm) (rfl)))) rfl ?_
      refine p_does (d_allocA S zs84) rfl ?_
      rintro _ w ⟨b5, rfl, S⟩
      refine p_does (d_storeW S 0 rfl rfl (one_msgV y) sz84 (by first | with_reducible assumption | (rw [bv_length]; with_reducible assumption) | (rw [List.size_toArray, bv_length]; with_reducible assumption) | (simp [cat, ltC, msgV, msgC, jbC, sgdC, rcpC, hm.h0, hm.h1, hm.go, hm.sec, hm.j, hm.rh, hm.rb, Value.cells]; done) | (simp [cat, ltC, msgV, msgC, jbC, sgdC, rcpC, hm.h0, hm.h1, hm.go, hm.sec, hm.j, hm.rh, hm.rb, Value.cells]; omega) | rfl) rfl rfl (by first | with_reducible assumption | (rw [bv_length]; with_reducible assumption) | (rw [List.size_toArray, bv_length]; with_reducible assumption) | (simp [cat, ltC, msgV, msgC, jbC, sgdC, rcpC, hm.h0, hm.h1, hm.go, hm.sec, hm.j, hm.rh, hm.rb, Value.cells]; done) | (simp [cat, ltC, msgV, msgC, jbC, sgdC, rcpC, hm.h0, hm.h1, hm.go, hm.sec, hm.j, hm.rh, hm.rb, Value.cells]; omega) | rfl)) rfl ?_
      intro _ w S
      refine p_nil (x_then (s_seq (s_plain ?_)))
      refine p_val (e_loadW 0 rfl ag84 sz84 S rfl rfl (by first | with_reducible assumption | (rw [bv_length]; with_reducible assumption) | (rw [List.size_toArray, bv_length]; with_reducible assumption) | (simp [cat, ltC, msgV, msgC, jbC, sgdC, rcpC, hm.h0, hm.h1, hm.go, hm.sec, hm.j, hm.rh, hm.rb, Value.cells]; done) | (simp [cat, ltC, msgV, msgC, jbC, sgdC, rcpC, hm.h0, hm.h1, hm.go, hm.sec, hm.j, hm.rh, hm.rb, Value.cells]; omega) | rfl)) rfl ?_
      refine p_does (d_call Try.func44 nm44 rfl rfl (tk_put_n _ y.m y.b.A y.b.n y.b.c y.b.xs q1 y.s.A y.s.n y.s.c y.s.xs p1 hm (S.rdOff RB oB) (S.rdOff RS oS) q2 p2)) rfl ?_
      rintro _ w ⟨k18, c18, o18, e18, rfl, hy18, hn18, T⟩
      have S := S.merge T rfl
      refine p_val (e_move (v := .tuple _) rfl) rfl ?_
      refine p_val (e_extract rfl rfl) rfl ?_
      refine p_val (e_extract rfl rfl) rfl ?_
      refine p_val (e_assign (v := .slice _ _ _) rfl) rfl ?_
      refine p_val (e_assign (v := .int _ _) rfl) rfl ?_
      refine p_nil (x_then (s_plain ?_))
      refine p_val (e_move (v := .pointer _) rfl) rfl ?_
      refine p_val (e_field rfl Try.underlying84 rfl sz3 (by decide)) rfl ?_
      refine p_val (e_loadF1 (i := 2) (off := 2) rfl ag3 S (j := 1) rfl rfl rfl (by first | with_reducible assumption | (rw [bv_length]; with_reducible assumption) | (rw [List.size_toArray, bv_length]; with_reducible assumption) | (simp [cat, ltC, msgV, msgC, jbC, sgdC, rcpC, hm.h0, hm.h1, hm.go, hm.sec, hm.j, hm.rh, hm.rb, Value.cells]; done) | (simp [cat, ltC, msgV, msgC, jbC, sgdC, rcpC, hm.h0, hm.h1, hm.go, hm.sec, hm.j, hm.rh, hm.rb, Value.cells]; omega) | rfl)) rfl ?_
      refine p_val (e_move (v := .slice _ _ _) rfl) rfl ?_
      refine p_val (e_buildS bt90 (Eq.trans (fill_cat (v := .int _ _) (l' := [[_]]) 0 1 rfl (rfl) (by first | with_reducible assumption | (rw [bv_length]; with_reducible assumption) | (rw [List.size_toArray, bv_length]; with_reducible assumption) | (simp [cat, ltC, msgV, msgC, jbC, sgdC, rcpC, hm.h0, hm.h1, hm.go, hm.sec, hm.j, hm.rh, hm.rb, Value.cells]; done) | (simp [cat, ltC, msgV, msgC, jbC, sgdC, rcpC, hm.h0, hm.h1, hm.go, hm.sec, hm.j, hm.rh, hm.rb, Value.cells]; omega) | rfl) (by first | with_reducible assumption | (rw [bv_length]; with_reducible assumption) | (rw [List.size_toArray, bv_length]; with_reducible assumption) | (simp [cat, ltC, msgV, msgC, jbC, sgdC, rcpC, hm.h0, hm.h1, hm.go, hm.sec, hm.j, hm.rh, hm.rb, Value.cells]; done) | (simp [cat, ltC, msgV, msgC, jbC, sgdC, rcpC, hm.h0, hm.h1, hm.go, hm.sec, hm.j, hm.rh, hm.rb, Value.cells]; omega) | rfl) (by first | with_reducible assumption | (rw [bv_length]; with_reducible assumption) | (rw [List.size_toArray, bv_length]; with_reducible assumption) | (simp [cat, ltC, msgV, msgC, jbC, sgdC, rcpC, hm.h0, hm.h1, hm.go, hm.sec, hm.j, hm.rh, hm.rb, Value.cells]; done) | (simp [cat, ltC, msgV, msgC, jbC, sgdC, rcpC, hm.h0, hm.h1, hm.go, hm.sec, hm.j, hm.rh, hm.rb, Value.cells]; omega) | rfl)) (Eq.trans (fill_cat (v := .slice _ _ _) (l' := [[_]]) 1 1 rfl (rfl) (by first | with_reducible assumption | (rw [bv_length]; with_reducible assumption) | (rw [List.size_toArray, bv_length]; with_reducible assumption) | (simp [cat, ltC, msgV, msgC, jbC, sgdC, rcpC, hm.h0, hm.h1, hm.go, hm.sec, hm.j, hm.rh, hm.rb, Value.cells]; done) | (simp [cat, ltC, msgV, msgC, jbC, sgdC, rcpC, hm.h0, hm.h1, hm.go, hm.sec, hm.j, hm.rh, hm.rb, Value.cells]; omega) | rfl) (by first | with_reducible assumption | (rw [bv_length]; with_reducible assumption) | (rw [List.size_toArray, bv_length]; with_reducible assumption) | (simp [cat, ltC, msgV, msgC, jbC, sgdC, rcpC, hm.h0, hm.h1, hm.go, hm.sec, hm.j, hm.rh, hm.rb, Value.cells]; done) | (simp [cat, ltC, msgV, msgC, jbC, sgdC, rcpC, hm.h0, hm.h1, hm.go, hm.sec, hm.j, hm.rh, hm.rb, Value.cells]; omega) | rfl) (by first | with_reducible assumption | (rw [bv_length]; with_reducible assumption) | (rw [List.size_toArray, bv_length]; with_reducible assumption) | (simp [cat, ltC, msgV, msgC, jbC, sgdC, rcpC, hm.h0, hm.h1, hm.go, hm.sec, hm.j, hm.rh, hm.rb, Value.cells]; done) | (simp [cat, ltC, msgV, msgC, jbC, sgdC, rcpC, hm.h0, hm.h1, hm.go, hm.sec, hm.j, hm.rh, hm.rb, Value.cells]; omega) | rfl)) rfl))) rfl ?_
      refine p_val (e_move (v := .int _ _) rfl) rfl ?_
      refine p_val (e_eql rfl rfl) rfl ?_
      refine p_does (d_call Try.func65 nm65 rfl rfl (nt_put _ hb k c X lost ⟨y.m.t, ⟨at_ k18, List.length o18, c18, o18⟩⟩ (decide (e18 = 0)) (S.hr [2, 3] rfl) hX h0 h1)) rfl ?_
      rintro _ w ⟨rfl, k28, c28, T⟩
      have S := (S.call [2, 3] T rfl).pk [2, 3, 0, 1] rfl
      refine p_nil (x_in (x_then (s_plain ?_)))
      refine p_val (e_add64 rfl rfl (by omega)) rfl ?_
      refine p_val (e_move (v := .int _ _) rfl) rfl ?_
      refine p_nil ?_
      refine x_times ?_
      refine w_succ ?_
      refine s_seq (s_plain ?_)
      refine p_val (e_lss rfl rfl) rfl ?_
      refine p_nil (x_then (s_seq ?_))
      refine s_cond rfl (fun hc13 => ?_) (fun hc13 => ?_)
      · exact False.elim (by omega)
      · refine s_exit (x_then_exit (x_then_exit (x_in_same (post_end ?_))))
        exact post0 Try.results38 (⟨rfl, _, _, _, _, o18, e18, hy18, hn18, S.pk [0, 2, 3] rfl⟩)
    · exact False.elim (by omega)
theorem nt_send2 (w0 : World) (hb : Nat) (k : Option Nat) (c : Nat) (X : List Lt) (lost : Int) (S0 : St w0 w0 (exOf [some hb, k]) [some hb, k] [netE k c X lost, netR c X]) (hX : X.length ≤ 64) (h0 : 0 ≤ lost) (h1 : lost ≤ 100000000) (y0 y : MsgV) (hno : ¬ y0.m.right) (hyes : y.m.right) (A : Option Addr) (x1 : Nat) (hy0 : MsgG w0 (exOf [some hb, k]) y0) (hy : MsgG w0 (exOf [some hb, k]) y) (R : Rd w0 239 A 2 ([y0, y].flatMap msgV)) (oR : Off A 2 (exOf [some hb, k])) :
    Ret Try.prog 38 [.pointer (some ⟨hb, 0, none⟩), .slice A 2 x1] w0 fun v w' => v = .tuple #[] ∧ ∃ k' c' k2 c2, St w0 w' (exOf [some hb, k]) [k2, some hb, k'] [Rw 5 1 (tput y.m y.b.xs y.s.xs).length c2 (bv (tput y.m y.b.xs y.s.xs)), netE k' c' (nX X ⟨y.m.t, ⟨at_ k2, (tput y.m y.b.xs y.s.xs).length, c2, tput y.m y.b.xs y.s.xs⟩⟩ true) (nL X (lost + 1) true), netR c' (nX X ⟨y.m.t, ⟨at_ k2, (tput y.m y.b.xs y.s.xs).length, c2, tput y.m y.b.xs y.s.xs⟩⟩ true)] := by
  refine enter Try.func38 rfl Try.ntmps38 (Nat.le_of_ble_eq_true rfl) ?_
  have S := S0
  obtain ⟨hm, ⟨q1, q2, RB, oB⟩, p1, p2, RS, oS⟩ := hy
  obtain ⟨hm0, ⟨q10, q20, RB0, oB0⟩, p10, p20, RS0, oS0⟩ := hy0
  have hcl : ∀ x ∈ [y0, y], (msgV x).length = 239 := by intro x hx; simp at hx; rcases hx with rfl | rfl; exact msgV_len hm0; exact msgV_len hm
  refine s_seq (s_seq (s_plain ?_))
  refine p_val (e_move (v := .pointer _) rfl) rfl ?_
  refine p_val (e_eqlP rfl rfl Try.underlying69) rfl ?_
  refine p_nil (x_then ?_)
  refine s_condb rfl (fun hc9 => ?_) (fun hc9 => ?_)
  · exact False.elim (by simp at hc9)
  · refine s_skip (x_then (s_seq (s_plain ?_)))
    refine p_val (e_move (v := .slice _ _ _) rfl) rfl ?_
    refine p_val (e_len rfl Try.underlying121) rfl ?_
    refine p_val (e_move (v := .int _ _) rfl) rfl ?_
    refine p_nil (x_then (s_block ?_))
    refine s_times 3 ?_
    refine w_succ ?_
    refine s_seq (s_plain ?_)
    refine p_val (e_lss rfl rfl) rfl ?_
    refine p_nil (x_then (s_seq ?_))
    refine s_cond rfl (fun hc13 => ?_) (fun hc13 => ?_)
    · refine s_skip (x_then (s_seq (s_block (s_seq (s_plain ?_)))))
      refine p_val (e_ixR (S.rdOff R oR) (by decide) rfl rfl Try.underlying121 sz84 (by omega)) rfl ?_
      refine p_val (e_loadRA rfl ag84 sz84 (by decide) ((Rd.elemA (S.rdOff R oR) (hcl) (rfl)))) rfl ?_
      refine p_does (d_allocA S zs84) rfl ?_
      rintro _ w ⟨b5, rfl, S⟩
      refine p_does (d_storeW S 0 rfl rfl (one_msgV y0) sz84 (by first | with_reducible assumption | (rw [bv_length]; with_reducible assumption) | (rw [List.size_toArray, bv_length]; with_reducible assumption) | (simp [cat, ltC, msgV, msgC, jbC, sgdC, rcpC, hm.h0, hm.h1, hm.go, hm.sec, hm.j, hm.rh, hm.rb, hm0.h0, hm0.h1, hm0.go, hm0.sec, hm0.j, hm0.rh, hm0.rb, Value.cells]; done) | (simp [cat, ltC, msgV, msgC, jbC, sgdC, rcpC, hm.h0, hm.h1, hm.go, hm.sec, hm.j, hm.rh, hm.rb, hm0.h0, hm0.h1, hm0.go, hm0.sec, hm0.j, hm0.rh, hm0.rb, Value.cells]; omega) | rfl) rfl rfl (by first | with_reducible assumption | (rw [bv_length]; with_reducible assumption) | (rw [List.size_toArray, bv_length]; with_reducible assumption) | (simp [cat, ltC, msgV, msgC, jbC, sgdC, rcpC, hm.h0, hm.h1, hm.go, hm.sec, hm.j, hm.rh, hm.rb, hm0.h0, hm0.h1, hm0.go, hm0.sec, hm0.j, hm0.rh, hm0.rb, Value.cells]; done) | (simp [cat, ltC, msgV, msgC, jbC, sgdC, rcpC, hm.h0, hm.h1, hm.go, hm.sec, hm.j, hm.rh, hm.rb, hm0.h0, hm0.h1, hm0.go, hm0.sec, hm0.j, hm0.rh, hm0.rb, Value.cells]; omega) | rfl)) rfl ?_
      intro _ w S
      refine p_nil (x_then (s_seq (s_plain ?_)))
      refine p_val (e_loadW 0 rfl ag84 sz84 S rfl rfl (by first | with_reducible assumption | (rw [bv_length]; with_reducible assumption) | (rw [List.size_toArray, bv_length]; with_reducible assumption) | (simp [cat, ltC, msgV, msgC, jbC, sgdC, rcpC, hm.h0, hm.h1, hm.go, hm.sec, hm.j, hm.rh, hm.rb, hm0.h0, hm0.h1, hm0.go, hm0.sec, hm0.j, hm0.rh, hm0.rb, Value.cells]; done) | (simp [cat, ltC, msgV, msgC, jbC, sgdC, rcpC, hm.h0, hm.h1, hm.go, hm.sec, hm.j, hm.rh, hm.rb, hm0.h0, hm0.h1, hm0.go, hm0.sec, hm0.j, hm0.rh, hm0.rb, Value.cells]; omega) | rfl)) rfl ?_
      refine p_does (d_call Try.func44 nm44 rfl rfl (tk_put_n _ y0.m y0.b.A y0.b.n y0.b.c y0.b.xs q10 y0.s.A y0.s.n y0.s.c y0.s.xs p10 hm0 (S.rdOff RB0 oB0) (S.rdOff RS0 oS0) q20 p20)) rfl ?_
      rintro _ w ⟨j18, d18, o17, e17, rfl, hy17, hn17, T⟩
      have S := S.merge T rfl
      obtain ⟨rfl, rfl⟩ := hn17 hno
      refine p_val (e_move (v := .tuple _) rfl) rfl ?_
      refine p_val (e_extract rfl rfl) rfl ?_
      refine p_val (e_extract rfl rfl) rfl ?_
      refine p_val (e_assign (v := .slice _ _ _) rfl) rfl ?_
      refine p_val (e_assign (v := .int _ _) rfl) rfl ?_
      refine p_nil (x_then (s_plain ?_))
      refine p_val (e_move (v := .pointer _) rfl) rfl ?_
      refine p_val (e_field rfl Try.underlying84 rfl sz3 (by decide)) rfl ?_
      refine p_val (e_loadF1 (i := 2) (off := 2) rfl ag3 S (j := 1) rfl rfl rfl (by first | with_reducible assumption | (rw [bv_length]; with_reducible assumption) | (rw [List.size_toArray, bv_length]; with_reducible assumption) | (simp [cat, ltC, msgV, msgC, jbC, sgdC, rcpC, hm.h0, hm.h1, hm.go, hm.sec, hm.j, hm.rh, hm.rb, hm0.h0, hm0.h1, hm0.go, hm0.sec, hm0.j, hm0.rh, hm0.rb, Value.cells]; done) | (simp [cat, ltC, msgV, msgC, jbC, sgdC, rcpC, hm.h0, hm.h1, hm.go, hm.sec, hm.j, hm.rh, hm.rb, hm0.h0, hm0.h1, hm0.go, hm0.sec, hm0.j, hm0.rh, hm0.rb, Value.cells]; omega) | rfl)) rfl ?_
      refine p_val (e_move (v := .slice _ _ _) rfl) rfl ?_
      refine p_val (e_buildS bt90 (Eq.trans (fill_cat (v := .int _ _) (l' := [[_]]) 0 1 rfl (rfl) (by first | with_reducible assumption | (rw [bv_length]; with_reducible assumption) | (rw [List.size_toArray, bv_length]; with_reducible assumption) | (simp [cat, ltC, msgV, msgC, jbC, sgdC, rcpC, hm.h0, hm.h1, hm.go, hm.sec, hm.j, hm.rh, hm.rb, hm0.h0, hm0.h1, hm0.go, hm0.sec, hm0.j, hm0.rh, hm0.rb, Value.cells]; done) | (simp [cat, ltC, msgV, msgC, jbC, sgdC, rcpC, hm.h0, hm.h1, hm.go, hm.sec, hm.j, hm.rh, hm.rb, hm0.h0, hm0.h1, hm0.go, hm0.sec, hm0.j, hm0.rh, hm0.rb, Value.cells]; omega) | rfl) (by first | with_reducible assumption | (rw [bv_length]; with_reducible assumption) | (rw [List.size_toArray, bv_length]; with_reducible assumption) | (simp [cat, ltC, msgV, msgC, jbC, sgdC, rcpC, hm.h0, hm.h1, hm.go, hm.sec, hm.j, hm.rh, hm.rb, hm0.h0, hm0.h1, hm0.go, hm0.sec, hm0.j, hm0.rh, hm0.rb, Value.cells]; done) | (simp [cat, ltC, msgV, msgC, jbC, sgdC, rcpC, hm.h0, hm.h1, hm.go, hm.sec, hm.j, hm.rh, hm.rb, hm0.h0, hm0.h1, hm0.go, hm0.sec, hm0.j, hm0.rh, hm0.rb, Value.cells]; omega) | rfl) (by first | with_reducible assumption | (rw [bv_length]; with_reducible assumption) | (rw [List.size_toArray, bv_length]; with_reducible assumption) | (simp [cat, ltC, msgV, msgC, jbC, sgdC, rcpC, hm.h0, hm.h1, hm.go, hm.sec, hm.j, hm.rh, hm.rb, hm0.h0, hm0.h1, hm0.go, hm0.sec, hm0.j, hm0.rh, hm0.rb, Value.cells]; done) | (simp [cat, ltC, msgV, msgC, jbC, sgdC, rcpC, hm.h0, hm.h1, hm.go, hm.sec, hm.j, hm.rh, hm.rb, hm0.h0, hm0.h1, hm0.go, hm0.sec, hm0.j, hm0.rh, hm0.rb, Value.cells]; omega) | rfl)) (Eq.trans (fill_cat (v := .slice _ _ _) (l' := [[_]]) 1 1 rfl (rfl) (by first | with_reducible assumption | (rw [bv_length]; with_reducible assumption) | (rw [List.size_toArray, bv_length]; with_reducible assumption) | (simp [cat, ltC, msgV, msgC, jbC, sgdC, rcpC, hm.h0, hm.h1, hm.go, hm.sec, hm.j, hm.rh, hm.rb, hm0.h0, hm0.h1, hm0.go, hm0.sec, hm0.j, hm0.rh, hm0.rb, Value.cells]; done) | (simp [cat, ltC, msgV, msgC, jbC, sgdC, rcpC, hm.h0, hm.h1, hm.go, hm.sec, hm.j, hm.rh, hm.rb, hm0.h0, hm0.h1, hm0.go, hm0.sec, hm0.j, hm0.rh, hm0.rb, Value.cells]; omega) | rfl) (by first | with_reducible assumption | (rw [bv_length]; with_reducible assumption) | (rw [List.size_toArray, bv_length]; with_reducible assumption) | (simp [cat, ltC, msgV, msgC, jbC, sgdC, rcpC, hm.h0, hm.h1, hm.go, hm.sec, hm.j, hm.rh, hm.rb, hm0.h0, hm0.h1, hm0.go, hm0.sec, hm0.j, hm0.rh, hm0.rb, Value.cells]; done) | (simp [cat, ltC, msgV, msgC, jbC, sgdC, rcpC, hm.h0, hm.h1, hm.go, hm.sec, hm.j, hm.rh, hm.rb, hm0.h0, hm0.h1, hm0.go, hm0.sec, hm0.j, hm0.rh, hm0.rb, Value.cells]; omega) | rfl) (by first | with_reducible assumption | (rw [bv_length]; with_reducible assumption) | (rw [List.size_toArray, bv_length]; with_reducible assumption) | (simp [cat, ltC, msgV, msgC, jbC, sgdC, rcpC, hm.h0, hm.h1, hm.go, hm.sec, hm.j, hm.rh, hm.rb, hm0.h0, hm0.h1, hm0.go, hm0.sec, hm0.j, hm0.rh, hm0.rb, Value.cells]; done) | (simp [cat, ltC, msgV, msgC, jbC, sgdC, rcpC, hm.h0, hm.h1, hm.go, hm.sec, hm.j, hm.rh, hm.rb, hm0.h0, hm0.h1, hm0.go, hm0.sec, hm0.j, hm0.rh, hm0.rb, Value.cells]; omega) | rfl)) rfl))) rfl ?_
      refine p_val (e_move (v := .int _ _) rfl) rfl ?_
      refine p_val (e_eql rfl rfl) rfl ?_
      refine p_does (d_call Try.func65 nm65 rfl rfl (nt_put _ hb k c X lost ⟨y0.m.t, ⟨at_ j18, 0, d18, []⟩⟩ (decide ((1 : Int) = 0)) (S.hr [2, 3] rfl) hX h0 (by omega))) rfl ?_
      rintro _ w ⟨rfl, k28, c28, T⟩
      have S := (S.call [2, 3] T rfl).pk [2, 3, 0, 1] rfl
      rw [show decide ((1 : Int) = 0) = false from rfl, nX_no (Or.inl rfl), nL_no (Or.inl rfl)] at S
      refine p_nil (x_in (x_then (s_plain ?_)))
      refine p_val (e_add64 rfl rfl (by omega)) rfl ?_
      refine p_val (e_move (v := .int _ _) rfl) rfl ?_
      refine p_nil ?_
      refine x_times ?_
      refine w_succ ?_
      refine s_seq (s_plain ?_)
      refine p_val (e_lss rfl rfl) rfl ?_
      refine p_nil (x_then (s_seq ?_))
      refine s_cond rfl (fun hc13 => ?_) (fun hc13 => ?_)
      · refine s_skip (x_then (s_seq (s_block (s_seq (s_plain ?_)))))
        refine p_val (e_ixR (S.rdOff R oR) (by decide) rfl rfl Try.underlying121 sz84 (by omega)) rfl ?_
        refine p_val (e_loadRA rfl ag84 sz84 (by decide) ((Rd.elemA (S.rdOff R oR) (hcl) (rfl)))) rfl ?_
        refine p_does (d_allocA S zs84) rfl ?_
        rintro _ w ⟨b5, rfl, S⟩
        refine p_does (d_storeW S 0 rfl rfl (one_msgV y) sz84 (by first | with_reducible assumption | (rw [bv_length]; with_reducible assumption) | (rw [List.size_toArray, bv_length]; with_reducible assumption) | (simp [cat, ltC, msgV, msgC, jbC, sgdC, rcpC, hm.h0, hm.h1, hm.go, hm.sec, hm.j, hm.rh, hm.rb, hm0.h0, hm0.h1, hm0.go, hm0.sec, hm0.j, hm0.rh, hm0.rb, Value.cells]; done) | (simp [cat, ltC, msgV, msgC, jbC, sgdC, rcpC, hm.h0, hm.h1, hm.go, hm.sec, hm.j, hm.rh, hm.rb, hm0.h0, hm0.h1, hm0.go, hm0.sec, hm0.j, hm0.rh, hm0.rb, Value.cells]; omega) | rfl) rfl rfl (by first | with_reducible assumption | (rw [bv_length]; with_reducible assumption) | (rw [List.size_toArray, bv_length]; with_reducible assumption) | (simp [cat, ltC, msgV, msgC, jbC, sgdC, rcpC, hm.h0, hm.h1, hm.go, hm.sec, hm.j, hm.rh, hm.rb, hm0.h0, hm0.h1, hm0.go, hm0.sec, hm0.j, hm0.rh, hm0.rb, Value.cells]; done) | (simp [cat, ltC, msgV, msgC, jbC, sgdC, rcpC, hm.h0, hm.h1, hm.go, hm.sec, hm.j, hm.rh, hm.rb, hm0.h0, hm0.h1, hm0.go, hm0.sec, hm0.j, hm0.rh, hm0.rb, Value.cells]; omega) | rfl)) rfl ?_
        intro _ w S
        refine p_nil (x_then (s_seq (s_plain ?_)))
        refine p_val (e_loadW 0 rfl ag84 sz84 S rfl rfl (by first | with_reducible assumption | (rw [bv_length]; with_reducible assumption) | (rw [List.size_toArray, bv_length]; with_reducible assumption) | (simp [cat, ltC, msgV, msgC, jbC, sgdC, rcpC, hm.h0, hm.h1, hm.go, hm.sec, hm.j, hm.rh, hm.rb, hm0.h0, hm0.h1, hm0.go, hm0.sec, hm0.j, hm0.rh, hm0.rb, Value.cells]; done) | (simp [cat, ltC, msgV, msgC, jbC, sgdC, rcpC, hm.h0, hm.h1, hm.go, hm.sec, hm.j, hm.rh, hm.rb, hm0.h0, hm0.h1, hm0.go, hm0.sec, hm0.j, hm0.rh, hm0.rb, Value.cells]; omega) | rfl)) rfl ?_
        refine p_does (d_call Try.func44 nm44 rfl rfl (tk_put_n _ y.m y.b.A y.b.n y.b.c y.b.xs q1 y.s.A y.s.n y.s.c y.s.xs p1 hm (S.rdOff RB oB) (S.rdOff RS oS) q2 p2)) rfl ?_
        rintro _ w ⟨k18, c18, o18, e18, rfl, hy18, hn18, T⟩
        have S := S.merge T rfl
        obtain ⟨rfl, rfl⟩ := hy18 hyes
        refine p_val (e_move (v := .tuple _) rfl) rfl ?_
        refine p_val (e_extract rfl rfl) rfl ?_
        refine p_val (e_extract rfl rfl) rfl ?_
        refine p_val (e_assign (v := .slice _ _ _) rfl) rfl ?_
        refine p_val (e_assign (v := .int _ _) rfl) rfl ?_
        refine p_nil (x_then (s_plain ?_))
        refine p_val (e_move (v := .pointer _) rfl) rfl ?_
        refine p_val (e_field rfl Try.underlying84 rfl sz3 (by decide)) rfl ?_
        refine p_val (e_loadF1 (i := 2) (off := 2) rfl ag3 S (j := 1) rfl rfl rfl (by first | with_reducible assumption | (rw [bv_length]; with_reducible assumption) | (rw [List.size_toArray, bv_length]; with_reducible assumption) | (simp [cat, ltC, msgV, msgC, jbC, sgdC, rcpC, hm.h0, hm.h1, hm.go, hm.sec, hm.j, hm.rh, hm.rb, hm0.h0, hm0.h1, hm0.go, hm0.sec, hm0.j, hm0.rh, hm0.rb, Value.cells]; done) | (simp [cat, ltC, msgV, msgC, jbC, sgdC, rcpC, hm.h0, hm.h1, hm.go, hm.sec, hm.j, hm.rh, hm.rb, hm0.h0, hm0.h1, hm0.go, hm0.sec, hm0.j, hm0.rh, hm0.rb, Value.cells]; omega) | rfl)) rfl ?_
        refine p_val (e_move (v := .slice _ _ _) rfl) rfl ?_
        refine p_val (e_buildS bt90 (Eq.trans (fill_cat (v := .int _ _) (l' := [[_]]) 0 1 rfl (rfl) (by first | with_reducible assumption | (rw [bv_length]; with_reducible assumption) | (rw [List.size_toArray, bv_length]; with_reducible assumption) | (simp [cat, ltC, msgV, msgC, jbC, sgdC, rcpC, hm.h0, hm.h1, hm.go, hm.sec, hm.j, hm.rh, hm.rb, hm0.h0, hm0.h1, hm0.go, hm0.sec, hm0.j, hm0.rh, hm0.rb, Value.cells]; done) | (simp [cat, ltC, msgV, msgC, jbC, sgdC, rcpC, hm.h0, hm.h1, hm.go, hm.sec, hm.j, hm.rh, hm.rb, hm0.h0, hm0.h1, hm0.go, hm0.sec, hm0.j, hm0.rh, hm0.rb, Value.cells]; omega) | rfl) (by first | with_reducible assumption | (rw [bv_length]; with_reducible assumption) | (rw [List.size_toArray, bv_length]; with_reducible assumption) | (simp [cat, ltC, msgV, msgC, jbC, sgdC, rcpC, hm.h0, hm.h1, hm.go, hm.sec, hm.j, hm.rh, hm.rb, hm0.h0, hm0.h1, hm0.go, hm0.sec, hm0.j, hm0.rh, hm0.rb, Value.cells]; done) | (simp [cat, ltC, msgV, msgC, jbC, sgdC, rcpC, hm.h0, hm.h1, hm.go, hm.sec, hm.j, hm.rh, hm.rb, hm0.h0, hm0.h1, hm0.go, hm0.sec, hm0.j, hm0.rh, hm0.rb, Value.cells]; omega) | rfl) (by first | with_reducible assumption | (rw [bv_length]; with_reducible assumption) | (rw [List.size_toArray, bv_length]; with_reducible assumption) | (simp [cat, ltC, msgV, msgC, jbC, sgdC, rcpC, hm.h0, hm.h1, hm.go, hm.sec, hm.j, hm.rh, hm.rb, hm0.h0, hm0.h1, hm0.go, hm0.sec, hm0.j, hm0.rh, hm0.rb, Value.cells]; done) | (simp [cat, ltC, msgV, msgC, jbC, sgdC, rcpC, hm.h0, hm.h1, hm.go, hm.sec, hm.j, hm.rh, hm.rb, hm0.h0, hm0.h1, hm0.go, hm0.sec, hm0.j, hm0.rh, hm0.rb, Value.cells]; omega) | rfl)) (Eq.trans (fill_cat (v := .slice _ _ _) (l' := [[_]]) 1 1 rfl (rfl) (by first | with_reducible assumption | (rw [bv_length]; with_reducible assumption) | (rw [List.size_toArray, bv_length]; with_reducible assumption) | (simp [cat, ltC, msgV, msgC, jbC, sgdC, rcpC, hm.h0, hm.h1, hm.go, hm.sec, hm.j, hm.rh, hm.rb, hm0.h0, hm0.h1, hm0.go, hm0.sec, hm0.j, hm0.rh, hm0.rb, Value.cells]; done) | (simp [cat, ltC, msgV, msgC, jbC, sgdC, rcpC, hm.h0, hm.h1, hm.go, hm.sec, hm.j, hm.rh, hm.rb, hm0.h0, hm0.h1, hm0.go, hm0.sec, hm0.j, hm0.rh, hm0.rb, Value.cells]; omega) | rfl) (by first | with_reducible assumption | (rw [bv_length]; with_reducible assumption) | (rw [List.size_toArray, bv_length]; with_reducible assumption) | (simp [cat, ltC, msgV, msgC, jbC, sgdC, rcpC, hm.h0, hm.h1, hm.go, hm.sec, hm.j, hm.rh, hm.rb, hm0.h0, hm0.h1, hm0.go, hm0.sec, hm0.j, hm0.rh, hm0.rb, Value.cells]; done) | (simp [cat, ltC, msgV, msgC, jbC, sgdC, rcpC, hm.h0, hm.h1, hm.go, hm.sec, hm.j, hm.rh, hm.rb, hm0.h0, hm0.h1, hm0.go, hm0.sec, hm0.j, hm0.rh, hm0.rb, Value.cells]; omega) | rfl) (by first | with_reducible assumption | (rw [bv_length]; with_reducible assumption) | (rw [List.size_toArray, bv_length]; with_reducible assumption) | (simp [cat, ltC, msgV, msgC, jbC, sgdC, rcpC, hm.h0, hm.h1, hm.go, hm.sec, hm.j, hm.rh, hm.rb, hm0.h0, hm0.h1, hm0.go, hm0.sec, hm0.j, hm0.rh, hm0.rb, Value.cells]; done) | (simp [cat, ltC, msgV, msgC, jbC, sgdC, rcpC, hm.h0, hm.h1, hm.go, hm.sec, hm.j, hm.rh, hm.rb, hm0.h0, hm0.h1, hm0.go, hm0.sec, hm0.j, hm0.rh, hm0.rb, Value.cells]; omega) | rfl)) rfl))) rfl ?_
        refine p_val (e_move (v := .int _ _) rfl) rfl ?_
        refine p_val (e_eql rfl rfl) rfl ?_
        refine p_does (d_call Try.func65 nm65 rfl rfl (nt_put _ hb k28 c28 X (lost + 1) ⟨y.m.t, ⟨at_ k18, (tput y.m y.b.xs y.s.xs).length, c18, tput y.m y.b.xs y.s.xs⟩⟩ (decide ((0 : Int) = 0)) (S.hr [4, 5] rfl) hX (by omega) (by omega))) rfl ?_
        rintro _ w ⟨rfl, k28, c28, T⟩
        have S := (S.call [4, 5] T rfl).pk [2, 3, 4, 5, 0, 1] rfl
        refine p_nil (x_in (x_then (s_plain ?_)))
        refine p_val (e_add64 rfl rfl (by omega)) rfl ?_
        refine p_val (e_move (v := .int _ _) rfl) rfl ?_
        refine p_nil ?_
        refine x_times ?_
        refine w_succ ?_
        refine s_seq (s_plain ?_)
        refine p_val (e_lss rfl rfl) rfl ?_
        refine p_nil (x_then (s_seq ?_))
        refine s_cond rfl (fun hc13 => ?_) (fun hc13 => ?_)
        · exact False.elim (by omega)
        · refine s_exit (x_then_exit (x_then_exit (x_in_same (post_end ?_))))
          exact post0 Try.results38 (⟨rfl, _, _, _, _, S.pk [0, 4, 5] rfl⟩)
      · exact False.elim (by omega)
    · exact False.elim (by omega)
end Go.Proofs.Ytcgcjklpilbndaa

/- Chapter 29's example, and its law on nil nets. It proves no statement by itself. -/
set_option linter.unusedSimpArgs false
set_option linter.unusedVariables false
set_option maxRecDepth 100000
set_option maxHeartbeats 2000000
namespace Go.Proofs.Ytcgcjklpilbndaa
open Go Go.RowKit E
attribute [local irreducible] wpList seqH treeH
def nM0 : Msg := ⟨0, 0, 0, 0, 0, 0, zsum, zsum, 0, zsum, 0, zsum, Jb.zero, Rcp.zero⟩
def nM1 : Msg := ⟨3, 1, 2, 0, 0, 0, zsum, zsum, 0, zsum, 0, zsum, Jb.zero, Rcp.zero⟩
theorem nM0_ok : nM0.ok := ⟨length_zsum, length_zsum, length_zsum, length_zsum, length_zsum, length_zsum, length_zsum⟩
theorem nM1_ok : nM1.ok := ⟨length_zsum, length_zsum, length_zsum, length_zsum, length_zsum, length_zsum, length_zsum⟩
theorem nM0_right : ¬ nM0.right := by decide
theorem nM1_right : nM1.right := by decide
def nY0 : MsgV := ⟨nM0, ⟨none, 0, 0, []⟩, ⟨none, 0, 0, []⟩⟩
def nY1 : MsgV := ⟨nM1, ⟨none, 0, 0, []⟩, ⟨none, 0, 0, []⟩⟩
theorem SlG.nil (w : World) (bs : List Nat) : SlG w bs ⟨none, 0, 0, []⟩ := ⟨rfl, by decide, Rd.nil _ _ _, Off.none_⟩
theorem nY0_ok (w : World) (bs : List Nat) : MsgG w bs nY0 := ⟨nM0_ok, SlG.nil _ _, SlG.nil _ _⟩
theorem nY1_ok (w : World) (bs : List Nat) : MsgG w bs nY1 := ⟨nM1_ok, SlG.nil _ _, SlG.nil _ _⟩
theorem for_one (x : Lt) (h : x.to = 2) : (forL [x] 2 1).length = 1 := by
  rw [forL_yes (x := x) (g := 0) rfl h, List.length_append]; rfl
theorem nt_for_nil (w0 : World) (t : Int) :
    Ret Try.prog 35 [.pointer none, .int .i64 t] w0 fun v w' => v = .slice none 0 0 ∧ Below w0.heap.size w0 w' := by
  refine enter Try.func35 rfl Try.ntmps35 (Nat.le_of_ble_eq_true rfl) ?_
  have S := St.init w0
  refine s_seq (s_plain ?_)
  refine p_val (e_assign (v := .slice _ _ _) rfl) rfl ?_
  refine p_nil (x_then (s_seq (s_plain ?_)))
  refine p_val (e_assign (v := .slice _ _ _) rfl) rfl ?_
  refine p_nil (x_then (s_seq (s_seq (s_plain ?_))))
  refine p_val (e_move (v := .pointer _) rfl) rfl ?_
  refine p_does (d_call Try.func33 nm33 rfl rfl (nt_len_nil _)) rfl ?_
  rintro _ w ⟨rfl, hB⟩
  have S := S.below hB
  refine p_val (e_move (v := .int _ _) rfl) rfl ?_
  refine p_nil (x_then (s_block ?_))
  refine s_times 1 ?_
  refine w_succ ?_
  refine s_seq (s_plain ?_)
  refine p_val (e_lss rfl rfl) rfl ?_
  refine p_nil (x_then (s_seq ?_))
  refine s_cond rfl (fun hc10 => ?_) (fun hc10 => ?_)
  · exact False.elim (by cases hc10)
  · refine s_exit (x_then_exit (x_then_exit (x_in_same (x_then (s_seq (s_plain ?_))))))
    refine p_val (e_move (v := .slice _ _ _) rfl) rfl ?_
    refine p_val (e_assign (v := .slice _ _ _) rfl) rfl ?_
    refine p_nil (x_then (s_ret ?_))
    exact post1 (v := .slice _ _ _) Try.results35 rfl (⟨rfl, S.to_below⟩)
theorem l29awake (w0 : World) :
    Ret Try.prog 37 [] w0 fun v w' => v = .bool true ∧ Below w0.heap.size w0 w' := by
  refine enter Try.func37 rfl Try.ntmps37 (Nat.le_of_ble_eq_true rfl) ?_
  have S := St.init w0
  refine s_seq (s_plain ?_)
  refine p_val (e_assign (v := .bool _) rfl) rfl ?_
  refine p_nil (x_then (s_seq (s_plain ?_)))
  refine p_val (e_buildS0 bt72) rfl ?_
  refine p_does (d_boxA S rfl) rfl ?_
  rintro _ w ⟨b3, rfl, S⟩
  have S := S.addNil 90 2
  refine p_val (e_assign (v := .pointer _) rfl) rfl ?_
  refine p_nil (x_then (s_seq (s_plain ?_)))
  refine p_val (e_move (v := .pointer _) rfl) rfl ?_
  refine p_val (e_buildS0 bt84) rfl ?_
  refine p_val (e_buildS bt84 (Eq.trans (fill_cat (v := .int _ _) (l' := [[_]]) 0 1 rfl (rfl) (by first | with_reducible assumption | (rw [bv_length]; with_reducible assumption) | (rw [List.size_toArray, bv_length]; with_reducible assumption) | (simp [cat, length_zsum, zc84, zc72]; done) | (simp [cat, length_zsum, zc84, zc72]; omega) | rfl) (by first | with_reducible assumption | (rw [bv_length]; with_reducible assumption) | (rw [List.size_toArray, bv_length]; with_reducible assumption) | (simp [cat, length_zsum, zc84, zc72]; done) | (simp [cat, length_zsum, zc84, zc72]; omega) | rfl) (by first | with_reducible assumption | (rw [bv_length]; with_reducible assumption) | (rw [List.size_toArray, bv_length]; with_reducible assumption) | (simp [cat, length_zsum, zc84, zc72]; done) | (simp [cat, length_zsum, zc84, zc72]; omega) | rfl)) (Eq.trans (fill_cat (v := .int _ _) (l' := [[_]]) 1 1 rfl (rfl) (by first | with_reducible assumption | (rw [bv_length]; with_reducible assumption) | (rw [List.size_toArray, bv_length]; with_reducible assumption) | (simp [cat, length_zsum, zc84, zc72]; done) | (simp [cat, length_zsum, zc84, zc72]; omega) | rfl) (by first | with_reducible assumption | (rw [bv_length]; with_reducible assumption) | (rw [List.size_toArray, bv_length]; with_reducible assumption) | (simp [cat, length_zsum, zc84, zc72]; done) | (simp [cat, length_zsum, zc84, zc72]; omega) | rfl) (by first | with_reducible assumption | (rw [bv_length]; with_reducible assumption) | (rw [List.size_toArray, bv_length]; with_reducible assumption) | (simp [cat, length_zsum, zc84, zc72]; done) | (simp [cat, length_zsum, zc84, zc72]; omega) | rfl)) (Eq.trans (fill_cat (v := .int _ _) (l' := [[_]]) 2 1 rfl (rfl) (by first | with_reducible assumption | (rw [bv_length]; with_reducible assumption) | (rw [List.size_toArray, bv_length]; with_reducible assumption) | (simp [cat, length_zsum, zc84, zc72]; done) | (simp [cat, length_zsum, zc84, zc72]; omega) | rfl) (by first | with_reducible assumption | (rw [bv_length]; with_reducible assumption) | (rw [List.size_toArray, bv_length]; with_reducible assumption) | (simp [cat, length_zsum, zc84, zc72]; done) | (simp [cat, length_zsum, zc84, zc72]; omega) | rfl) (by first | with_reducible assumption | (rw [bv_length]; with_reducible assumption) | (rw [List.size_toArray, bv_length]; with_reducible assumption) | (simp [cat, length_zsum, zc84, zc72]; done) | (simp [cat, length_zsum, zc84, zc72]; omega) | rfl)) rfl)))) rfl ?_
  refine p_does (d_litV S Try.underlying121 sz84 zv84 rfl (by decide) (E := [_, _]) rfl rfl (by intro l hl; simp at hl; rcases hl with rfl | rfl <;> simp [cat, zc84]) (by decide)) rfl ?_
  rintro _ w ⟨b7, rfl, S⟩
  refine p_does (d_call Try.func38 nm38 rfl rfl (nt_send2 _ b3 none 0 [] 0 (S.hr [2, 1] rfl) (by decide) (by decide) (by decide) nY0 nY1 nM0_right nM1_right _ _ (nY0_ok _ _) (nY1_ok _ _) (by have R := (S.rdRw 0 rfl rfl); rw [show [nY0, nY1].flatMap msgV = flatV [msgV nY0, msgV nY1] from by simp [flatV]]; exact R) (S.offRow 0 [2, 1] rfl rfl))) rfl ?_
  rintro _ w ⟨rfl, k8, c8, k28, c28, T⟩
  have S := (S.call [2, 1] T rfl).pk [0, 3, 2, 1] rfl
  rw [nX_yes rfl (by decide), nL_yes rfl (by decide)] at S
  refine p_nil (x_then (s_seq ?_))
  refine s_cutK (ks := [k28, some b7, k8, some b3]) (ps := [Rw _ _ _ _ _, Rw _ _ _ _ _, Rw _ _ _ _ _, Ex _ _]) [] trivial S (fun keep ks ps f' w' => ∃ u bb, f' = upds u ((0, .bool bb) :: keep) ∧ (bb = true ↔ True) ∧ St w0 w' [] ks ps) ?_ ?_
  · refine s_plain ?_
    refine p_val (e_move (v := .pointer _) rfl) rfl ?_
    refine p_does (d_call Try.func34 nm34 rfl rfl (nt_lost _ _ _ _ _ _ (S.hr [3, 2] rfl))) rfl ?_
    rintro _ w ⟨rfl, T⟩
    have S := (S.call [3, 2] T rfl).pk [2, 3, 1, 0] rfl
    refine p_valB (e_eql rfl rfl) rfl (fun hg11 => ?_) (fun hg11 => ?_)
    · refine p_val (e_move (v := .bool _) rfl) rfl ?_
      refine pg_val rfl rfl rfl rfl rfl (e_move (v := .pointer _) rfl) ?_
      refine pg_does rfl rfl rfl rfl rfl (d_call Try.func33 nm33 rfl rfl (nt_len _ _ _ _ _ _ (S.hr [3, 2] rfl))) ?_
      rintro _ w ⟨rfl, T⟩
      have S := (S.call [3, 2] T rfl).pk [2, 3, 1, 0] rfl
      refine pg_valB rfl rfl rfl rfl rfl (e_eql rfl rfl) (fun hg15 => ?_) (fun hg15 => ?_)
      · refine p_val (e_pick_t rfl rfl) rfl ?_
        refine p_val (e_move (v := .bool _) rfl) rfl ?_
        refine pg_val rfl rfl rfl rfl rfl (e_move (v := .pointer _) rfl) ?_
        refine pg_does rfl rfl rfl rfl rfl (d_call Try.func35 nm35 rfl rfl (nt_for _ _ _ _ _ _ (S.hr [3, 2] rfl) (show 1 ≤ 64 by decide) 2)) ?_
        rintro _ w ⟨k19, c19, rfl, T⟩
        have S := (S.call [3, 2] T rfl).pk [0, 3, 4, 2, 1] rfl
        refine pg_val rfl rfl rfl rfl rfl (e_len rfl Try.underlying31) ?_
        refine pg_val rfl rfl rfl rfl rfl (e_eql rfl rfl) ?_
        refine p_val (e_pick_t rfl rfl) rfl ?_
        refine p_val (e_move (v := .bool _) rfl) rfl ?_
        refine p_val (e_pick rfl rfl rfl) rfl ?_
        refine p_val (e_assign (v := .bool _) rfl) rfl ?_
        exact p_nil (x_then ⟨_, rfl, _, _, upds_eq ⟨rfl, trivial⟩, by first | (simp only [decide_eq_true_eq, eq_self, true_iff, iff_true, iff_false, Bool.false_eq_true, false_iff, ge_iff_le, gt_iff_lt, true_and, and_true, false_and, and_false, true_or, or_true, false_or, or_false, not_true_eq_false, not_false_eq_true]; omega) | (simp; done) | omega | (simp_all; done), S.pk [1, 2, 3, 4] rfl⟩)
      · exact False.elim (hg15 rfl)
    · exact False.elim (hg11 rfl)
  · rintro f w ⟨u, b0, rfl, hb0, S⟩
    refine x_then (s_ret ?_)
    exact post1 (v := .bool _) Try.results37 rfl (by rw [hb0.2 trivial]; exact ⟨rfl, S.to_below⟩)
end Go.Proofs.Ytcgcjklpilbndaa

/- Chapter 29's law on nil nets. It proves no statement by itself. -/
set_option linter.unusedSimpArgs false
set_option linter.unusedVariables false
set_option maxRecDepth 100000
set_option maxHeartbeats 2000000
namespace Go.Proofs.Ytcgcjklpilbndaa
open Go Go.RowKit E
attribute [local irreducible] wpList seqH treeH
theorem nnobody_calls (w0 : World) (i : Int) (long : Bool) :
    Ret Try.prog 9 [.int .i64 i, .bool long] w0 fun v w' => v = .bool true ∧ Below w0.heap.size w0 w' := by
  refine enter Try.func9 rfl Try.ntmps9 (Nat.le_of_ble_eq_true rfl) ?_
  have S := St.init w0
  obtain ⟨N1, hN1⟩ : ∃ N : Nat, N = 65537 := ⟨_, rfl⟩
  obtain ⟨N2, hN2⟩ : ∃ N : Nat, N = 65536 := ⟨_, rfl⟩
  refine s_seq (s_plain ?_)
  refine p_val (e_assign (v := .bool _) rfl) rfl ?_
  refine p_nil (x_then (s_seq (s_plain ?_)))
  refine p_val (e_assign (v := .pointer _) rfl) rfl ?_
  refine p_nil (x_then (s_seq (s_plain ?_)))
  refine p_val (e_move (v := .pointer _) rfl) rfl ?_
  refine p_val (e_buildS0 bt84) rfl ?_
  refine p_does (d_litV S Try.underlying121 sz84 zv84 rfl (by decide) (E := [_]) rfl rfl (by intro l hl; simp at hl; rw [hl]; first | rfl | (simp [cat, ltC, Value.cells, length_zsum, zc84, zc72, zc90]; done)) (by decide)) rfl ?_
  rintro _ w ⟨b13, rfl, S⟩
  refine p_does (d_call Try.func38 nm38 rfl rfl (nt_send_nil _ _ _ _)) rfl ?_
  rintro _ w ⟨rfl, hB⟩
  have S := S.below hB
  refine p_nil (x_then (s_seq (s_plain ?_)))
  refine p_val (e_move (v := .pointer _) rfl) rfl ?_
  refine p_does (d_call Try.func39 nm39 rfl rfl (nt_throw_nil _ _ _ _ _)) rfl ?_
  rintro _ w ⟨rfl, hB⟩
  have S := S.below hB
  refine p_nil (x_then (s_seq (s_plain ?_)))
  refine p_val (e_move (v := .pointer _) rfl) rfl ?_
  refine p_val (e_move (v := .int _ _) rfl) rfl ?_
  refine p_does (d_call Try.func40 nm40 rfl rfl (nt_take_nil _ _)) rfl ?_
  rintro _ w ⟨rfl, hB⟩
  have S := S.below hB
  refine p_val (e_move (v := .tuple _) rfl) rfl ?_
  refine p_val (e_extract rfl rfl) rfl ?_
  refine p_val (e_extract rfl rfl) rfl ?_
  refine p_does (d_allocA S zs90) rfl ?_
  rintro _ w ⟨b6, rfl, S⟩
  refine p_does (d_storeW S 0 rfl rfl (by first | exact bv_one _ | exact sv_one _ | exact iv_one _ | with_reducible assumption | (refine One.mem ?_; repeat (first | exact One.bv _ | exact One.sv _ | exact One.iv _ | exact One.nil | exact One.cat0 | refine One.cat1 ?_ ?_ | refine One.cons rfl ?_ | refine One.append ?_ ?_))) sz90 (by first | with_reducible assumption | (rw [bv_length]; with_reducible assumption) | (rw [List.size_toArray, bv_length]; with_reducible assumption) | (simp [cat, ltC, Value.cells, length_zsum, zc84, zc72, zc90]; done) | (simp [cat, ltC, Value.cells, length_zsum, zc84, zc72, zc90]; omega) | rfl) rfl rfl (by first | with_reducible assumption | (rw [bv_length]; with_reducible assumption) | (rw [List.size_toArray, bv_length]; with_reducible assumption) | (simp [cat, ltC, Value.cells, length_zsum, zc84, zc72, zc90]; done) | (simp [cat, ltC, Value.cells, length_zsum, zc84, zc72, zc90]; omega) | rfl)) rfl ?_
  intro _ w S
  refine p_val (e_assign (v := .int _ _) rfl) rfl ?_
  refine p_nil (x_then (s_seq (s_plain ?_)))
  refine p_val (e_move (v := .pointer _) rfl) rfl ?_
  refine p_val (e_move (v := .int _ _) rfl) rfl ?_
  refine p_does (d_call Try.func36 nm36 rfl rfl (nt_peek_nil _ _)) rfl ?_
  rintro _ w ⟨rfl, hB⟩
  have S := S.below hB
  refine p_val (e_move (v := .tuple _) rfl) rfl ?_
  refine p_val (e_extract rfl rfl) rfl ?_
  refine p_val (e_extract rfl rfl) rfl ?_
  refine p_does (d_allocA S zs90) rfl ?_
  rintro _ w ⟨b8, rfl, S⟩
  refine p_does (d_storeW S 0 rfl rfl (by first | exact bv_one _ | exact sv_one _ | exact iv_one _ | with_reducible assumption | (refine One.mem ?_; repeat (first | exact One.bv _ | exact One.sv _ | exact One.iv _ | exact One.nil | exact One.cat0 | refine One.cat1 ?_ ?_ | refine One.cons rfl ?_ | refine One.append ?_ ?_))) sz90 (by first | with_reducible assumption | (rw [bv_length]; with_reducible assumption) | (rw [List.size_toArray, bv_length]; with_reducible assumption) | (simp [cat, ltC, Value.cells, length_zsum, zc84, zc72, zc90]; done) | (simp [cat, ltC, Value.cells, length_zsum, zc84, zc72, zc90]; omega) | rfl) rfl rfl (by first | with_reducible assumption | (rw [bv_length]; with_reducible assumption) | (rw [List.size_toArray, bv_length]; with_reducible assumption) | (simp [cat, ltC, Value.cells, length_zsum, zc84, zc72, zc90]; done) | (simp [cat, ltC, Value.cells, length_zsum, zc84, zc72, zc90]; omega) | rfl)) rfl ?_
  intro _ w S
  refine p_val (e_assign (v := .int _ _) rfl) rfl ?_
  refine p_nil (x_then (s_seq (s_plain ?_)))
  refine p_val (e_buildS0 bt72) rfl ?_
  refine p_does (d_boxA S rfl) rfl ?_
  rintro _ w ⟨b30, rfl, S⟩
  have S := S.addNil 90 2
  refine p_val (e_assign (v := .pointer _) rfl) rfl ?_
  refine p_nil (x_then (s_seq ?_))
  refine s_cutK (ks := [none, some b30, some b8, some b6, some b13]) (ps := [Rw _ _ _ _ _, Ex _ _, Ex _ _, Ex _ _, Rw _ _ _ _ _]) [(0, .int _ _), (5, .pointer _), (7, .int _ _), (9, .int _ _)] ⟨rfl, rfl, rfl, rfl, trivial⟩ S (fun keep ks ps f' w' => ∃ u Kp30 Cp30 X1 l1, f' = upds u (keep) ∧ St w0 w' [] [Kp30, some b30, some b8, some b6, some b13] [Rw 90 2 (X1.length) Cp30 (X1.flatMap ltV), netE Kp30 Cp30 X1 l1, (ps.getD 2 fun _ => True), (ps.getD 3 fun _ => True), (ps.getD 4 fun _ => True)]) ?_ ?_
  · refine s_seq (s_plain ?_)
    refine p_val (e_move (v := .bool _) rfl) rfl ?_
    refine p_nil (x_then ?_)
    refine s_condb rfl (fun hc31 => ?_) (fun hc31 => ?_)
    · refine s_seq (s_plain ?_)
      refine p_val (e_move (v := .pointer _) rfl) rfl ?_
      refine p_does (d_makeBV S Try.underlying47 el5 zv5 N1 (zi := 65537) (by omega) rfl rfl (by omega) (by unfold maxLen; omega)) rfl ?_
      rintro _ w ⟨b33, rfl, S⟩
      refine p_does (d_call Try.func39 nm39 rfl rfl (nt_throw _ b30 none 0 [] 0 (S.hr [2, 1] rfl) (by decide) (by decide) (by decide) 1 _ N1 _ (List.replicate N1 0) (List.length_replicate ..) (S.rdRw 0 rfl rfl) (S.offRow 0 [2, 1] rfl rfl) (by omega))) rfl ?_
      rintro _ w ⟨rfl, k34, c34, k234, c234, T⟩
      have S := (S.call [2, 1] T rfl).pk [0, 3, 2, 1, 6, 7, 8] rfl
      rw [nX_no (may := decide ((N1 : Int) ≤ 65536)) (Or.inl (decide_eq_false (by omega))), nL_no (may := decide ((N1 : Int) ≤ 65536)) (Or.inl (decide_eq_false (by omega)))] at S
      refine p_nil (x_then (s_seq (s_plain ?_)))
      refine p_val (e_move (v := .pointer _) rfl) rfl ?_
      refine p_does (d_makeBV S Try.underlying47 el5 zv5 N2 (zi := 65536) (by omega) rfl rfl (by omega) (by unfold maxLen; omega)) rfl ?_
      rintro _ w ⟨b36, rfl, S⟩
      refine p_does (d_call Try.func39 nm39 rfl rfl (nt_throw _ b30 k34 c34 [] (0 + 1) (S.hr [4, 3] rfl) (by decide) (by decide) (by decide) 1 _ N2 _ (List.replicate N2 0) (List.length_replicate ..) (S.rdRw 0 rfl rfl) (S.offRow 0 [4, 3] rfl rfl) (by omega))) rfl ?_
      rintro _ w ⟨rfl, k37, c37, k237, c237, T⟩
      have S := (S.call [4, 3] T rfl).pk [0, 3, 4, 5, 2, 1, 8, 9, 10] rfl
      rw [nX_yes (may := decide ((N2 : Int) ≤ 65536)) (decide_eq_true (by omega)) (by decide), nL_yes (may := decide ((N2 : Int) ≤ 65536)) (decide_eq_true (by omega)) (by decide)] at S
      refine p_nil (x_then (s_seq ?_))
      refine s_cutK (ks := [k237, some b36, k234, some b33, k37, some b30, some b8, some b6, some b13]) (ps := [Rw _ _ _ _ _, Rw _ _ _ _ _, Rw _ _ _ _ _, Rw _ _ _ _ _, Rw _ _ _ _ _, Ex _ _, Ex _ _, Ex _ _, Rw _ _ _ _ _]) [(0, .int _ _), (5, .pointer _), (7, .int _ _), (9, .int _ _)] ⟨rfl, rfl, rfl, rfl, trivial⟩ S (fun keep ks ps f' w' => ∃ u bb, f' = upds u ((45, .bool bb) :: keep) ∧ (bb = true ↔ False) ∧ St w0 w' [] ks ps) ?_ ?_
      · refine s_plain ?_
        refine p_val (e_move (v := .pointer _) rfl) rfl ?_
        refine p_does (d_call Try.func33 nm33 rfl rfl (nt_len _ _ _ _ _ _ (S.hr [5, 4] rfl))) rfl ?_
        rintro _ w ⟨rfl, T⟩
        have S := (S.call [5, 4] T rfl).pk [2, 3, 4, 5, 1, 0, 8, 9, 10] rfl
        refine p_valB (e_neq rfl rfl) rfl (fun hg40 => ?_) (fun hg40 => ?_)
        · exact False.elim (hg40 rfl)
        · refine p_val (e_move (v := .bool _) rfl) rfl ?_
          refine pg_val rfl rfl rfl rfl rfl (e_move (v := .pointer _) rfl) ?_
          refine pg_does rfl rfl rfl rfl rfl (d_call Try.func34 nm34 rfl rfl (nt_lost _ _ _ _ _ _ (S.hr [5, 4] rfl))) ?_
          rintro _ w ⟨rfl, T⟩
          have S := (S.call [5, 4] T rfl).pk [2, 3, 4, 5, 1, 0, 8, 9, 10] rfl
          refine pg_val rfl rfl rfl rfl rfl (e_neq rfl rfl) ?_
          refine p_val (e_pick_f rfl rfl) rfl ?_
          exact p_nil (x_then ⟨_, rfl, _, _, upds_eq ⟨rfl, rfl, rfl, rfl, rfl, trivial⟩, by decide, S⟩)
      · rintro f w ⟨u, b45, rfl, hb45, S⟩
        refine x_then ?_
        refine s_condb rfl (fun hc45 => ?_) (fun hc45 => ?_)
        · exact False.elim ((fun (hp45 : False) => hp45) (hb45.1 hc45))
        · have hp45 : ¬ False := fun h => by rw [hb45.2 h] at hc45; cases hc45
          refine s_skip ?_
          exact x_then ⟨_, rfl, _, _, _, _, _, upds_eq ⟨rfl, rfl, rfl, rfl, trivial⟩, S.pk [4, 5, 6, 7, 8] rfl⟩
    · refine s_skip ?_
      exact x_then ⟨_, rfl, _, _,  _,  [],  0, upds_eq ⟨rfl, rfl, rfl, rfl, trivial⟩, S⟩
  · rintro f w ⟨u, Kp30, Cp30, X1, l1, rfl, S⟩
    refine x_then (s_seq ?_)
    refine s_cutK (ks := [Kp30, some b30, some b8, some b6, some b13]) (ps := [Rw _ _ _ _ _, Ex _ _, Ex _ _, Ex _ _, Rw _ _ _ _ _]) [] trivial S (fun keep ks ps f' w' => ∃ u bb, f' = upds u ((4, .bool bb) :: keep) ∧ (bb = true ↔ True) ∧ St w0 w' [] ks ps) ?_ ?_
    · refine s_plain ?_
      refine p_val (e_move (v := .int _ _) rfl) rfl ?_
      refine p_valB (e_eql rfl rfl) rfl (fun hg47 => ?_) (fun hg47 => ?_)
      · refine p_val (e_move (v := .bool _) rfl) rfl ?_
        refine pg_val rfl rfl rfl rfl rfl (e_move (v := .int _ _) rfl) ?_
        refine pg_valB rfl rfl rfl rfl rfl (e_eql rfl rfl) (fun hg50 => ?_) (fun hg50 => ?_)
        · refine p_val (e_pick_t rfl rfl) rfl ?_
          refine p_val (e_move (v := .bool _) rfl) rfl ?_
          refine pg_val rfl rfl rfl rfl rfl (e_move (v := .pointer _) rfl) ?_
          refine pg_val rfl rfl rfl rfl rfl (e_move (v := .int _ _) rfl) ?_
          refine pg_does rfl rfl rfl rfl rfl (d_call Try.func41 nm41 rfl rfl (nt_lose_nil _ _)) ?_
          rintro _ w ⟨rfl, hB⟩
          have S := S.below hB
          refine pg_valB rfl rfl rfl rfl rfl (e_eql rfl rfl) (fun hg56 => ?_) (fun hg56 => ?_)
          · refine p_val (e_pick_t rfl rfl) rfl ?_
            refine p_val (e_move (v := .bool _) rfl) rfl ?_
            refine pg_val rfl rfl rfl rfl rfl (e_move (v := .pointer _) rfl) ?_
            refine pg_val rfl rfl rfl rfl rfl (e_move (v := .int _ _) rfl) ?_
            refine pg_does rfl rfl rfl rfl rfl (d_call Try.func42 nm42 rfl rfl (nt_twice_nil _ _)) ?_
            rintro _ w ⟨rfl, hB⟩
            have S := S.below hB
            refine pg_valB rfl rfl rfl rfl rfl (e_eql rfl rfl) (fun hg62 => ?_) (fun hg62 => ?_)
            · refine p_val (e_pick_t rfl rfl) rfl ?_
              refine p_val (e_move (v := .bool _) rfl) rfl ?_
              refine pg_val rfl rfl rfl rfl rfl (e_move (v := .pointer _) rfl) ?_
              refine pg_does rfl rfl rfl rfl rfl (d_call Try.func33 nm33 rfl rfl (nt_len_nil _)) ?_
              rintro _ w ⟨rfl, hB⟩
              have S := S.below hB
              refine pg_val rfl rfl rfl rfl rfl (e_move (v := .pointer _) rfl) ?_
              refine pg_does rfl rfl rfl rfl rfl (d_call Try.func34 nm34 rfl rfl (nt_lost_nil _)) ?_
              rintro _ w ⟨rfl, hB⟩
              have S := S.below hB
              refine pg_val rfl rfl rfl rfl rfl (e_add64 rfl rfl (by omega)) ?_
              refine pg_val rfl rfl rfl rfl rfl (e_move (v := .pointer _) rfl) ?_
              refine pg_val rfl rfl rfl rfl rfl (e_move (v := .int _ _) rfl) ?_
              refine pg_does rfl rfl rfl rfl rfl (d_call Try.func35 nm35 rfl rfl (nt_for_nil _ _)) ?_
              rintro _ w ⟨rfl, hB⟩
              have S := S.below hB
              refine pg_val rfl rfl rfl rfl rfl (e_len rfl Try.underlying31) ?_
              refine pg_val rfl rfl rfl rfl rfl (e_add64 rfl rfl (by omega)) ?_
              refine pg_valB rfl rfl rfl rfl rfl (e_eql rfl rfl) (fun hg75 => ?_) (fun hg75 => ?_)
              · refine p_val (e_pick_t rfl rfl) rfl ?_
                refine p_val (e_move (v := .bool _) rfl) rfl ?_
                refine pg_does rfl rfl rfl rfl rfl (d_call Try.func37 nm37 rfl rfl (l29awake _)) ?_
                rintro _ w ⟨rfl, hB⟩
                have S := S.below hB
                refine p_val (e_pick_t rfl rfl) rfl ?_
                refine p_val (e_assign (v := .bool _) rfl) rfl ?_
                exact p_nil (x_then ⟨_, rfl, _, _, upds_eq ⟨rfl, trivial⟩, by first | (simp only [decide_eq_true_eq, eq_self, true_iff, iff_true, iff_false, Bool.false_eq_true, false_iff, ge_iff_le, gt_iff_lt, true_and, and_true, false_and, and_false, true_or, or_true, false_or, or_false, not_true_eq_false, not_false_eq_true]; omega) | (simp; done) | omega | (simp_all; done), S⟩)
              · refine p_val (e_pick_t rfl rfl) rfl ?_
                refine p_val (e_move (v := .bool _) rfl) rfl ?_
                refine p_no rfl rfl rfl rfl rfl ?_
                refine p_val (e_pick_f rfl rfl) rfl ?_
                refine p_val (e_assign (v := .bool _) rfl) rfl ?_
                exact p_nil (x_then ⟨_, rfl, _, _, upds_eq ⟨rfl, trivial⟩, by first | (simp only [decide_eq_true_eq, eq_self, true_iff, iff_true, iff_false, Bool.false_eq_true, false_iff, ge_iff_le, gt_iff_lt, true_and, and_true, false_and, and_false, true_or, or_true, false_or, or_false, not_true_eq_false, not_false_eq_true]; omega) | (simp; done) | omega | (simp_all; done), S⟩)
            · refine p_val (e_pick_t rfl rfl) rfl ?_
              refine p_val (e_move (v := .bool _) rfl) rfl ?_
              refine p_no rfl rfl rfl rfl rfl ?_
              refine p_no rfl rfl rfl rfl rfl ?_
              refine p_no rfl rfl rfl rfl rfl ?_
              refine p_no rfl rfl rfl rfl rfl ?_
              refine p_no rfl rfl rfl rfl rfl ?_
              refine p_no rfl rfl rfl rfl rfl ?_
              refine p_no rfl rfl rfl rfl rfl ?_
              refine p_no rfl rfl rfl rfl rfl ?_
              refine p_no rfl rfl rfl rfl rfl ?_
              refine p_no rfl rfl rfl rfl rfl ?_
              refine p_no rfl rfl rfl rfl rfl ?_
              refine p_val (e_pick_f rfl rfl) rfl ?_
              refine p_val (e_move (v := .bool _) rfl) rfl ?_
              refine p_no rfl rfl rfl rfl rfl ?_
              refine p_val (e_pick_f rfl rfl) rfl ?_
              refine p_val (e_assign (v := .bool _) rfl) rfl ?_
              exact p_nil (x_then ⟨_, rfl, _, _, upds_eq ⟨rfl, trivial⟩, by first | (simp only [decide_eq_true_eq, eq_self, true_iff, iff_true, iff_false, Bool.false_eq_true, false_iff, ge_iff_le, gt_iff_lt, true_and, and_true, false_and, and_false, true_or, or_true, false_or, or_false, not_true_eq_false, not_false_eq_true]; omega) | (simp; done) | omega | (simp_all; done), S⟩)
          · refine p_val (e_pick_t rfl rfl) rfl ?_
            refine p_val (e_move (v := .bool _) rfl) rfl ?_
            refine p_no rfl rfl rfl rfl rfl ?_
            refine p_no rfl rfl rfl rfl rfl ?_
            refine p_no rfl rfl rfl rfl rfl ?_
            refine p_no rfl rfl rfl rfl rfl ?_
            refine p_val (e_pick_f rfl rfl) rfl ?_
            refine p_val (e_move (v := .bool _) rfl) rfl ?_
            refine p_no rfl rfl rfl rfl rfl ?_
            refine p_no rfl rfl rfl rfl rfl ?_
            refine p_no rfl rfl rfl rfl rfl ?_
            refine p_no rfl rfl rfl rfl rfl ?_
            refine p_no rfl rfl rfl rfl rfl ?_
            refine p_no rfl rfl rfl rfl rfl ?_
            refine p_no rfl rfl rfl rfl rfl ?_
            refine p_no rfl rfl rfl rfl rfl ?_
            refine p_no rfl rfl rfl rfl rfl ?_
            refine p_no rfl rfl rfl rfl rfl ?_
            refine p_no rfl rfl rfl rfl rfl ?_
            refine p_val (e_pick_f rfl rfl) rfl ?_
            refine p_val (e_move (v := .bool _) rfl) rfl ?_
            refine p_no rfl rfl rfl rfl rfl ?_
            refine p_val (e_pick_f rfl rfl) rfl ?_
            refine p_val (e_assign (v := .bool _) rfl) rfl ?_
            exact p_nil (x_then ⟨_, rfl, _, _, upds_eq ⟨rfl, trivial⟩, by first | (simp only [decide_eq_true_eq, eq_self, true_iff, iff_true, iff_false, Bool.false_eq_true, false_iff, ge_iff_le, gt_iff_lt, true_and, and_true, false_and, and_false, true_or, or_true, false_or, or_false, not_true_eq_false, not_false_eq_true]; omega) | (simp; done) | omega | (simp_all; done), S⟩)
        · refine p_val (e_pick_t rfl rfl) rfl ?_
          refine p_val (e_move (v := .bool _) rfl) rfl ?_
          refine p_no rfl rfl rfl rfl rfl ?_
          refine p_no rfl rfl rfl rfl rfl ?_
          refine p_no rfl rfl rfl rfl rfl ?_
          refine p_no rfl rfl rfl rfl rfl ?_
          refine p_val (e_pick_f rfl rfl) rfl ?_
          refine p_val (e_move (v := .bool _) rfl) rfl ?_
          refine p_no rfl rfl rfl rfl rfl ?_
          refine p_no rfl rfl rfl rfl rfl ?_
          refine p_no rfl rfl rfl rfl rfl ?_
          refine p_no rfl rfl rfl rfl rfl ?_
          refine p_val (e_pick_f rfl rfl) rfl ?_
          refine p_val (e_move (v := .bool _) rfl) rfl ?_
          refine p_no rfl rfl rfl rfl rfl ?_
          refine p_no rfl rfl rfl rfl rfl ?_
          refine p_no rfl rfl rfl rfl rfl ?_
          refine p_no rfl rfl rfl rfl rfl ?_
          refine p_no rfl rfl rfl rfl rfl ?_
          refine p_no rfl rfl rfl rfl rfl ?_
          refine p_no rfl rfl rfl rfl rfl ?_
          refine p_no rfl rfl rfl rfl rfl ?_
          refine p_no rfl rfl rfl rfl rfl ?_
          refine p_no rfl rfl rfl rfl rfl ?_
          refine p_no rfl rfl rfl rfl rfl ?_
          refine p_val (e_pick_f rfl rfl) rfl ?_
          refine p_val (e_move (v := .bool _) rfl) rfl ?_
          refine p_no rfl rfl rfl rfl rfl ?_
          refine p_val (e_pick_f rfl rfl) rfl ?_
          refine p_val (e_assign (v := .bool _) rfl) rfl ?_
          exact p_nil (x_then ⟨_, rfl, _, _, upds_eq ⟨rfl, trivial⟩, by first | (simp only [decide_eq_true_eq, eq_self, true_iff, iff_true, iff_false, Bool.false_eq_true, false_iff, ge_iff_le, gt_iff_lt, true_and, and_true, false_and, and_false, true_or, or_true, false_or, or_false, not_true_eq_false, not_false_eq_true]; omega) | (simp; done) | omega | (simp_all; done), S⟩)
      · refine p_val (e_move (v := .bool _) rfl) rfl ?_
        refine p_no rfl rfl rfl rfl rfl ?_
        refine p_no rfl rfl rfl rfl rfl ?_
        refine p_val (e_pick_f rfl rfl) rfl ?_
        refine p_val (e_move (v := .bool _) rfl) rfl ?_
        refine p_no rfl rfl rfl rfl rfl ?_
        refine p_no rfl rfl rfl rfl rfl ?_
        refine p_no rfl rfl rfl rfl rfl ?_
        refine p_no rfl rfl rfl rfl rfl ?_
        refine p_val (e_pick_f rfl rfl) rfl ?_
        refine p_val (e_move (v := .bool _) rfl) rfl ?_
        refine p_no rfl rfl rfl rfl rfl ?_
        refine p_no rfl rfl rfl rfl rfl ?_
        refine p_no rfl rfl rfl rfl rfl ?_
        refine p_no rfl rfl rfl rfl rfl ?_
        refine p_val (e_pick_f rfl rfl) rfl ?_
        refine p_val (e_move (v := .bool _) rfl) rfl ?_
        refine p_no rfl rfl rfl rfl rfl ?_
        refine p_no rfl rfl rfl rfl rfl ?_
        refine p_no rfl rfl rfl rfl rfl ?_
        refine p_no rfl rfl rfl rfl rfl ?_
        refine p_no rfl rfl rfl rfl rfl ?_
        refine p_no rfl rfl rfl rfl rfl ?_
        refine p_no rfl rfl rfl rfl rfl ?_
        refine p_no rfl rfl rfl rfl rfl ?_
        refine p_no rfl rfl rfl rfl rfl ?_
        refine p_no rfl rfl rfl rfl rfl ?_
        refine p_no rfl rfl rfl rfl rfl ?_
        refine p_val (e_pick_f rfl rfl) rfl ?_
        refine p_val (e_move (v := .bool _) rfl) rfl ?_
        refine p_no rfl rfl rfl rfl rfl ?_
        refine p_val (e_pick_f rfl rfl) rfl ?_
        refine p_val (e_assign (v := .bool _) rfl) rfl ?_
        exact p_nil (x_then ⟨_, rfl, _, _, upds_eq ⟨rfl, trivial⟩, by first | (simp only [decide_eq_true_eq, eq_self, true_iff, iff_true, iff_false, Bool.false_eq_true, false_iff, ge_iff_le, gt_iff_lt, true_and, and_true, false_and, and_false, true_or, or_true, false_or, or_false, not_true_eq_false, not_false_eq_true]; omega) | (simp; done) | omega | (simp_all; done), S⟩)
    · rintro f w ⟨u, b4, rfl, hb4, S⟩
      refine x_then (s_ret ?_)
      exact post1 (v := .bool _) Try.results9 rfl (by rw [hb4.2 trivial]; exact ⟨rfl, S.to_below⟩)
end Go.Proofs.Ytcgcjklpilbndaa
