/- Own texts, one behind the other: walks and laws that the statement needs. They prove no statement by themselves. -/
import Derived.Test.YtcgcjklpilbndaaZP37a2
/- Terms: names, joined, right ones, walked. It proves no statement by itself. -/
set_option linter.unusedSimpArgs false
set_option linter.unusedVariables false
set_option maxRecDepth 100000
set_option maxHeartbeats 1000000
namespace Go.Proofs.Ytcgcjklpilbndaa
open Go Go.RowKit E
attribute [local irreducible] wpList seqH treeH
theorem eqNd (a b : Nd) : EqV Try.prog 2 40 (ndV a) (ndV b) (a = b) :=
  (EqV.struct (j := 1) Try.underlying40 (by kernel_rfl)
    (eqf_cons rfl (fun w => run_part1 (a := 0) w ag3 rfl rfl) (fun w => run_part1 (a := 0) w ag3 rfl rfl) (EqV.int Try.underlying3)
    (eqf_cons rfl (fun w => run_part1 (a := 1) w ag3 rfl rfl) (fun w => run_part1 (a := 1) w ag3 rfl rfl) (EqV.int Try.underlying3)
    (eqf_cons rfl (fun w => run_part1 (a := 2) w ag3 rfl rfl) (fun w => run_part1 (a := 2) w ag3 rfl rfl) (EqV.int Try.underlying3) eqf_nil)))).iff
    (by cases a; cases b; simp)
theorem checkNd (em : Bool) (k : Nd) (w : World) : (Instr.checkKey em 10000 40 (ndV k)).run Try.prog w = .ok () w := by
  have h0 : (part 3 (ndL k).toArray 0).run Try.prog w = .ok (.int .i64 k.k) w := run_part1 (l := ndC k) (a := 0) w ag3 rfl rfl
  have h1 : (part 3 (ndL k).toArray 1).run Try.prog w = .ok (.int .i64 k.a) w := run_part1 (l := ndC k) (a := 1) w ag3 rfl rfl
  have h2 : (part 3 (ndL k).toArray 2).run Try.prog w = .ok (.int .i64 k.b) w := run_part1 (l := ndC k) (a := 2) w ag3 rfl rfl
  have hc : ∀ (x : Int), (Instr.checkKey em 9999 3 (.int .i64 x)).run Try.prog w = .ok () w := fun x => by
    rw [Instr.checkKey]
    simp [run_underlying Try.underlying3]
  rw [show (10000 : Nat) = 9999 + 1 from rfl, Instr.checkKey]
  simp [run_underlying Try.underlying40, h0, h1, h2, hc]
theorem ndKey : KeyT Try.prog 40 ndV where
  wide := by rw [Try.underlying40]
  check := checkNd
  same := fun a b w => by
    obtain ⟨r, h1, h2⟩ := eqNd a b 9998 w
    have : r = decide (a = b) := by rw [Bool.eq_iff_iff, h2, decide_eq_true_eq]
    rw [← this]
    exact h1
abbrev nodeR (n c : Nat) (B : List Nd) : Option Obj → Prop := Rw 40 3 n c (ndv B)
@[irreducible] def tOf (a : Int) : List Nd := [⟨1, a, 0⟩]
theorem tOf_len (a : Int) : (tOf a).length = 1 := by unfold tOf; rfl
theorem tOf_get (a : Int) : (tOf a).getD 0 nd0 = ⟨1, a, 0⟩ := by unfold tOf; rfl
def shift (m : Int) (n : Nd) : Nd := if n.k = 1 then n else ⟨n.k, n.a + m, if n.k = 3 then n.b else n.b + m⟩
def tJoin (k : Int) (a b : List Nd) : List Nd := if k = 3 then a ++ [⟨3, (a.length : Int) - 1, 0⟩] else a ++ b.map (shift a.length) ++ [⟨k, (a.length : Int) - 1, (a.length : Int) + b.length - 1⟩]
theorem ndv_take {t : List Nd} {g : Nat} (h : g < t.length) : ndv (t.take (g + 1)) = ndv (t.take g) ++ ndL (t.getD g nd0) := by
  rw [List.take_succ_eq_append_getElem h, ndv_append]
  simp [List.getD_eq_getElem?_getD, h]
theorem map_take_getD {t : List Nd} {g : Nat} {f : Nd → Nd} (h : g < t.length) : (t.take (g + 1)).map f = (t.take g).map f ++ [f (t.getD g nd0)] := by
  rw [List.take_succ_eq_append_getElem h, List.map_append]
  simp [List.getD_eq_getElem?_getD, h]
theorem ndv_one (t : List Nd) : One (ndv t) := by
  intro u hu
  obtain ⟨n, _, h⟩ := List.mem_flatMap.1 hu
  simp [ndL, cat, ndC] at h
  rcases h with rfl | rfl | rfl <;> rfl
theorem ndL_one (n : Nd) : One (ndL n) := by
  intro u h
  simp [ndL, cat, ndC] at h
  rcases h with rfl | rfl | rfl <;> rfl
theorem join_hash {k : Int} {a b : List Nd} (h : k = 3) : tJoin k a b = a ++ [⟨3, (a.length : Int) - 1, 0⟩] := by unfold tJoin; rw [if_pos h]
theorem join_two {k : Int} {a b : List Nd} (h : ¬ k = 3) : tJoin k a b = a ++ b.map (shift a.length) ++ [⟨k, (a.length : Int) - 1, (a.length : Int) + b.length - 1⟩] := by unfold tJoin; rw [if_neg h]
theorem ndv_single (n : Nd) : ndv [n] = ndL n := rfl
theorem tm_of (w0 : World) (a : Int) :
    Ret Try.prog 18 [.int .i64 a] w0 fun v w' => ∃ k c, v = .slice (at_ k) (tOf a).length c ∧ St w0 w' [] [k] [nodeR (tOf a).length c (tOf a)] := by
  refine enter Try.func18 rfl Try.ntmps18 (Nat.le_of_ble_eq_true rfl) ?_
  have S := St.init w0
  refine s_seq (s_plain ?_)
  refine p_val (e_assign (v := .slice _ _ _) rfl) rfl ?_
  refine p_nil (x_then (s_seq (s_plain ?_)))
  refine p_val (e_move (v := .int _ _) rfl) rfl ?_
  refine p_val (e_buildS bt40 (Eq.trans (fill_cat (v := .int _ _) (l' := [[_]]) 0 1 rfl (rfl) (by first | with_reducible assumption | (rw [bv_length]; with_reducible assumption) | (rw [List.size_toArray, bv_length]; with_reducible assumption) | (simp [cat]; done) | (simp [cat]; omega) | rfl) (by first | with_reducible assumption | (rw [bv_length]; with_reducible assumption) | (rw [List.size_toArray, bv_length]; with_reducible assumption) | (simp [cat]; done) | (simp [cat]; omega) | rfl) (by first | with_reducible assumption | (rw [bv_length]; with_reducible assumption) | (rw [List.size_toArray, bv_length]; with_reducible assumption) | (simp [cat]; done) | (simp [cat]; omega) | rfl)) (Eq.trans (fill_cat (v := .int _ _) (l' := [[_]]) 1 1 rfl (rfl) (by first | with_reducible assumption | (rw [bv_length]; with_reducible assumption) | (rw [List.size_toArray, bv_length]; with_reducible assumption) | (simp [cat]; done) | (simp [cat]; omega) | rfl) (by first | with_reducible assumption | (rw [bv_length]; with_reducible assumption) | (rw [List.size_toArray, bv_length]; with_reducible assumption) | (simp [cat]; done) | (simp [cat]; omega) | rfl) (by first | with_reducible assumption | (rw [bv_length]; with_reducible assumption) | (rw [List.size_toArray, bv_length]; with_reducible assumption) | (simp [cat]; done) | (simp [cat]; omega) | rfl)) rfl))) rfl ?_
  refine p_does (d_litV S Try.underlying24 sz40 zv40 rfl (by decide) (E := [_]) rfl rfl (by intro l hl; simp at hl; rw [hl]; first | rfl | (simp [cat, ]; done)) (by decide)) rfl ?_
  rintro _ w ⟨b5, rfl, S⟩
  refine p_val (e_assign (v := .slice _ _ _) rfl) rfl ?_
  refine p_nil (x_then (s_ret ?_))
  exact post1 (v := .slice _ _ _) Try.results18 rfl (by unfold tOf; exact ⟨_, _, rfl, S⟩)
theorem bk_len_nil (w0 : World) : Ret Try.prog 31 [.pointer none] w0 fun v w' => v = .int .i64 0 ∧ Below w0.heap.size w0 w' := by
  refine enter Try.func31 rfl Try.ntmps31 (Nat.le_of_ble_eq_true rfl) ?_
  have S := St.init w0
  refine s_seq (s_plain ?_)
  refine p_val (e_assign (v := .int _ _) rfl) rfl ?_
  refine p_nil (x_then (s_seq (s_seq (s_plain ?_))))
  refine p_val (e_move (v := .pointer _) rfl) rfl ?_
  refine p_val (e_eqlP rfl rfl Try.underlying63) rfl ?_
  refine p_nil (x_then ?_)
  refine s_condb rfl (fun hc4 => ?_) (fun hc4 => ?_)
  · refine s_seq (s_plain ?_)
    refine p_val (e_assign (v := .int _ _) rfl) rfl ?_
    refine p_nil (x_then (s_ret (x_then_ret ?_)))
    exact post1 (v := .int _ _) Try.results31 rfl (⟨rfl, S.to_below⟩)
  · exact False.elim (by simp at hc4)
theorem l37few (w0 : World) (A : Option Addr) (n c : Nat) (hc : n ≤ c) :
    Ret Try.prog 12 [.slice A n c] w0 fun v w' => v = .slice A (min n 8) c ∧ Below w0.heap.size w0 w' := by
  refine enter Try.func12 rfl Try.ntmps12 (Nat.le_of_ble_eq_true rfl) ?_
  have S := St.init w0
  refine s_seq (s_plain ?_)
  refine p_val (e_assign (v := .slice _ _ _) rfl) rfl ?_
  refine p_nil (x_then (s_seq (s_seq (s_plain ?_))))
  refine p_val (e_move (v := .slice _ _ _) rfl) rfl ?_
  refine p_val (e_len rfl Try.underlying22) rfl ?_
  refine p_val (e_gtr rfl rfl) rfl ?_
  refine p_nil (x_then ?_)
  refine s_cond rfl (fun hc5 => ?_) (fun hc5 => ?_)
  · refine s_seq (s_plain ?_)
    refine p_val (e_move (v := .slice _ _ _) rfl) rfl ?_
    refine p_val (e_sl_h ((8)) rfl rfl (rfl) (by omega) Try.underlying22 sz24) rfl ?_
    refine p_val (e_assign (v := .slice _ _ _) rfl) rfl ?_
    refine p_nil (x_then (s_ret (x_then_ret ?_)))
    exact post1 (v := .slice _ _ _) Try.results12 rfl (⟨by rw [Nat.min_eq_right (by omega)], S.to_below⟩)
  · refine s_skip (x_then (s_seq (s_plain ?_)))
    refine p_val (e_move (v := .slice _ _ _) rfl) rfl ?_
    refine p_val (e_assign (v := .slice _ _ _) rfl) rfl ?_
    refine p_nil (x_then (s_ret ?_))
    exact post1 (v := .slice _ _ _) Try.results12 rfl (⟨by rw [Nat.min_eq_left (by omega)], S.to_below⟩)
theorem tm_set (w0 : World) (k : Option Nat) (n c : Nat) (l : List Bool) (i : Int) (S0 : St w0 w0 (exOf [k]) [k] [Rw 4 1 n c (bbv l)]) (h : 0 ≤ i ∧ i < n) (hl : l.length = n) :
    Ret Try.prog 70 [.slice (at_ k) n c, .int .i64 i] w0 fun v w' => v = .bool (decide (l.getD i.toNat false = false)) ∧ St w0 w' (exOf [k]) [k] [Rw 4 1 n c (bbv (l.set i.toNat true))] := by
  refine enter Try.func70 rfl Try.ntmps70 (Nat.le_of_ble_eq_true rfl) ?_
  have S := S0
  refine s_seq (s_plain ?_)
  refine p_val (e_assign (v := .bool _) rfl) rfl ?_
  refine p_nil (x_then (s_seq (s_plain ?_)))
  refine p_val (e_move (v := .slice _ _ _) rfl) rfl ?_
  refine p_val (e_move (v := .int _ _) rfl) rfl ?_
  refine p_val (e_ixR (S.rdRw 0 rfl rfl) (by decide) rfl rfl Try.underlying105 sz4 (by omega)) rfl ?_
  refine p_val ((e_loadR1i rfl ag4 (S.rdRw 0 rfl rfl) (bbv_get (by omega)))) rfl ?_
  refine p_val (e_assign (v := .bool _) rfl) rfl ?_
  refine p_nil (x_then (s_seq (s_plain ?_)))
  refine p_val (e_move (v := .slice _ _ _) rfl) rfl ?_
  refine p_val (e_move (v := .int _ _) rfl) rfl ?_
  refine p_val (e_ixR (S.rdRw 0 rfl rfl) (by decide) rfl rfl Try.underlying105 sz4 (by omega)) rfl ?_
  refine p_does (d_storeRw1 (v := .bool _) S 0 rfl rfl rfl rfl rfl sz4 (by omega)) rfl ?_
  intro _ w S
  refine p_nil (x_then (s_seq (s_plain ?_)))
  refine p_val (e_move (v := .bool _) rfl) rfl ?_
  refine p_val (e_not rfl) rfl ?_
  refine p_val (e_assign (v := .bool _) rfl) rfl ?_
  refine p_nil (x_then (s_ret ?_))
  exact post1 (v := .bool _) Try.results70 rfl (⟨by cases h : l.getD i.toNat false <;> rfl, by rw [bbv_set] at S; exact S⟩)
theorem tm_join (w0 : World) (k : Int) (A A2 : Option Addr) (c c2 : Nat) (a b : List Nd) (R : Rd w0 3 A a.length (ndv a)) (R2 : Rd w0 3 A2 b.length (ndv b)) (ha : a.length ≤ 1000) (hb : b.length ≤ 1000) (hb0 : ∀ i, i < b.length → ndOk i (b.getD i nd0)) :
    Ret Try.prog 16 [.int .i64 k, .slice A a.length c, .slice A2 b.length c2] w0 fun v w' => ∃ k1 c1, v = .slice (at_ k1) (tJoin k a b).length c1 ∧ St w0 w' [] [k1] [nodeR (tJoin k a b).length c1 (tJoin k a b)] := by
  refine enter Try.func16 rfl Try.ntmps16 (Nat.le_of_ble_eq_true rfl) ?_
  have S := St.init w0
  refine s_seq (s_plain ?_)
  refine p_val (e_assign (v := .slice _ _ _) rfl) rfl ?_
  refine p_nil (x_then (s_seq (s_plain ?_)))
  refine p_val (e_move (v := .slice _ _ _) rfl) rfl ?_
  have S := S.addNil 40 3
  refine p_does (d_append S 0 rfl rfl Try.underlying24 el40 rfl rfl (S.rdOld R rfl) (by first | exact bv_one _ | exact sv_one _ | exact iv_one _ | with_reducible assumption | (refine One.mem ?_; repeat (first | exact One.bv _ | exact One.sv _ | exact One.iv _ | exact One.nil | exact One.cat0 | refine One.cat1 ?_ ?_ | refine One.cons rfl ?_ | exact ndv_one _ | exact  ndL_one _ | refine One.append ?_ ?_))) (by first | omega | (simp only [List.length_append, List.length_cons, List.length_nil, bv_length]; omega) | (simp [cat]; omega)) (by unfold maxLen; first | omega | (simp only [List.length_append, List.length_cons, List.length_nil, bv_length]; omega))) rfl ?_
  rintro _ w ⟨k11, c11, rfl, S⟩
  refine p_val (e_assign (v := .slice _ _ _) rfl) rfl ?_
  refine p_nil (x_then (s_seq (s_seq (s_plain ?_))))
  refine p_val (e_move (v := .int _ _) rfl) rfl ?_
  refine p_val (e_eql rfl rfl) rfl ?_
  refine p_nil (x_then ?_)
  refine s_cond rfl (fun hc13 => ?_) (fun hc13 => ?_)
  · refine s_seq (s_plain ?_)
    refine p_val (e_move (v := .slice _ _ _) rfl) rfl ?_
    refine p_val (e_move (v := .slice _ _ _) rfl) rfl ?_
    refine p_val (e_len rfl Try.underlying24) rfl ?_
    refine p_val (e_sub64 rfl rfl (by omega)) rfl ?_
    refine p_val (e_buildS bt40 (Eq.trans (fill_cat (v := .int _ _) (l' := [[_]]) 0 1 rfl (rfl) (by first | with_reducible assumption | (rw [bv_length]; with_reducible assumption) | (rw [List.size_toArray, bv_length]; with_reducible assumption) | (simp [cat]; done) | (simp [cat]; omega) | rfl) (by first | with_reducible assumption | (rw [bv_length]; with_reducible assumption) | (rw [List.size_toArray, bv_length]; with_reducible assumption) | (simp [cat]; done) | (simp [cat]; omega) | rfl) (by first | with_reducible assumption | (rw [bv_length]; with_reducible assumption) | (rw [List.size_toArray, bv_length]; with_reducible assumption) | (simp [cat]; done) | (simp [cat]; omega) | rfl)) (Eq.trans (fill_cat (v := .int _ _) (l' := [[_]]) 1 1 rfl (rfl) (by first | with_reducible assumption | (rw [bv_length]; with_reducible assumption) | (rw [List.size_toArray, bv_length]; with_reducible assumption) | (simp [cat]; done) | (simp [cat]; omega) | rfl) (by first | with_reducible assumption | (rw [bv_length]; with_reducible assumption) | (rw [List.size_toArray, bv_length]; with_reducible assumption) | (simp [cat]; done) | (simp [cat]; omega) | rfl) (by first | with_reducible assumption | (rw [bv_length]; with_reducible assumption) | (rw [List.size_toArray, bv_length]; with_reducible assumption) | (simp [cat]; done) | (simp [cat]; omega) | rfl)) rfl))) rfl ?_
    refine p_does (d_litV S Try.underlying24 sz40 zv40 rfl (by decide) (E := [_]) rfl rfl (by intro l hl; simp at hl; rw [hl]; first | rfl | (simp [cat, ]; done)) (by decide)) rfl ?_
    rintro _ w ⟨b19, rfl, S⟩
    refine p_does (d_append S 1 rfl rfl Try.underlying24 el40 rfl rfl (S.rdRw 0 rfl rfl) (by first | exact bv_one _ | exact sv_one _ | exact iv_one _ | with_reducible assumption | (refine One.mem ?_; repeat (first | exact One.bv _ | exact One.sv _ | exact One.iv _ | exact One.nil | exact One.cat0 | refine One.cat1 ?_ ?_ | refine One.cons rfl ?_ | exact ndv_one _ | exact  ndL_one _ | refine One.append ?_ ?_))) (by first | omega | (simp only [List.length_append, List.length_cons, List.length_nil, bv_length]; omega) | (simp [cat]; omega)) (by unfold maxLen; first | omega | (simp only [List.length_append, List.length_cons, List.length_nil, bv_length]; omega))) rfl ?_
    rintro _ w ⟨k20, c20, rfl, S⟩
    refine p_val (e_assign (v := .slice _ _ _) rfl) rfl ?_
    refine p_nil (x_then (s_ret (x_then_ret ?_)))
    exact post1 (v := .slice _ _ _) Try.results16 rfl (by have e := join_hash (a := a) (b := b) hc13; have hl : 0 + a.length + 1 = (tJoin k a b).length := (by rw [e]; simp only [List.length_append, List.length_map, List.length_cons, List.length_nil]; try omega); have hx : [] ++ ndv a ++ ndL ⟨3, (a.length : Int) - 1, 0⟩ = ndv (tJoin k a b) := (by rw [e, ndv_append]; rfl); rw [← hl]; refine ⟨_, _, rfl, ?_⟩; unfold nodeR; rw [← hx]; exact S.pk [1] rfl)
  · refine s_skip (x_then (s_seq (s_seq (s_plain ?_))))
    refine p_val (e_move (v := .slice _ _ _) rfl) rfl ?_
    refine p_val (e_len rfl Try.underlying24) rfl ?_
    refine p_val (e_move (v := .int _ _) rfl) rfl ?_
    refine p_nil (x_then (s_block ?_))
    refine s_loopK (α := Nat) (ks := [k11]) (ps := [Rw _ _ _ _ _]) [(0, .int _ _), (1, .slice _ _ _), (2, .slice _ _ _), (21, .slice _ _ _), (22, .int _ _)] ⟨rfl, rfl, rfl, rfl, rfl, trivial⟩ S (fun keep ks ps g f' w' => ∃ u Kk11 Ck11 m xs, f' = upds u ((7, .slice (at_ Kk11) (m) Ck11) :: (23, .int .i64 (g : Int)) :: keep) ∧ (g ≤ b.length) ∧ (m = a.length + g) ∧ (xs = ndv (a ++ (b.take g).map (shift a.length))) ∧ St w0 w' [] [Kk11] [Rw 40 3 (m) Ck11 (xs)]) (fun g => b.length - g) (0) (⟨_, _, _, _, _, upds_eq ⟨rfl, rfl, rfl, rfl, rfl, rfl, rfl, trivial⟩, by first | omega | rfl | with_reducible assumption | (simp; done) | (simp; omega), by first | omega | rfl | with_reducible assumption | (simp; done) | (simp; omega), by simp, S⟩) ?_
    rintro g f w ⟨u, Kk11, Ck11, m, xs, rfl, hg, rfl, rfl, S⟩
    refine s_seq (s_plain ?_)
    refine p_val (e_lss rfl rfl) rfl ?_
    refine p_nil (x_then (s_seq ?_))
    refine s_cond rfl (fun hc24 => ?_) (fun hc24 => ?_)
    · obtain ⟨n, hn⟩ : ∃ n, n = b.getD g nd0 := ⟨_, rfl⟩
      have hok := hb0 g (by omega)
      rw [← hn] at hok
      unfold ndOk at hok
      have hat : b[(g : Int).toNat]? = some n := by rw [hn]; exact getD_at nd0 (by omega)
      refine s_skip (x_then (s_seq (s_block (s_seq (s_plain ?_)))))
      refine p_val (e_ixR (S.rdOld R2 rfl) (by decide) rfl rfl Try.underlying24 sz40 (by omega)) rfl ?_
      refine p_val (e_loadRA rfl ag40 sz40 (by decide) ((Rd.elemA (S.rdOld R2 rfl) (fun _ _ => rfl) (hat)))) rfl ?_
      refine p_does (d_allocA S zs40) rfl ?_
      rintro _ w ⟨b9, rfl, S⟩
      refine p_does (d_storeW S 0 rfl rfl (by first | exact bv_one _ | exact sv_one _ | exact iv_one _ | with_reducible assumption | (refine One.mem ?_; repeat (first | exact One.bv _ | exact One.sv _ | exact One.iv _ | exact One.nil | exact One.cat0 | refine One.cat1 ?_ ?_ | refine One.cons rfl ?_ | exact ndv_one _ | exact  ndL_one _ | refine One.append ?_ ?_))) sz40 (by first | with_reducible assumption | (rw [bv_length]; with_reducible assumption) | (rw [List.size_toArray, bv_length]; with_reducible assumption) | (simp [cat]; done) | (simp [cat]; omega) | rfl) rfl rfl (by first | with_reducible assumption | (rw [bv_length]; with_reducible assumption) | (rw [List.size_toArray, bv_length]; with_reducible assumption) | (simp [cat]; done) | (simp [cat]; omega) | rfl)) rfl ?_
      intro _ w S
      refine p_nil (x_then (s_seq ?_))
      refine s_cutK (ks := [some b9, Kk11]) (ps := [Ex _ _, Rw _ _ _ _ _]) [(0, .int _ _), (1, .slice _ _ _), (2, .slice _ _ _), (7, .slice _ _ _), (9, .pointer _), (21, .slice _ _ _), (22, .int _ _), (23, .int _ _)] ⟨rfl, rfl, rfl, rfl, rfl, rfl, rfl, rfl, trivial⟩ S (fun keep ks ps f' w' => ∃ u n2, f' = upds u (keep) ∧ (n2 = shift a.length n) ∧ St w0 w' [] [some b9, Kk11] [Ex (ndL n2).toArray 40, (ps.getD 1 fun _ => True)]) ?_ ?_
      · refine s_seq (s_plain ?_)
        refine p_val (e_field rfl Try.underlying40 rfl sz3 (by decide)) rfl ?_
        refine p_val (e_loadF1 (i := 0) (off := 0) rfl ag3 S (j := 0) rfl rfl rfl (by first | with_reducible assumption | (rw [bv_length]; with_reducible assumption) | (rw [List.size_toArray, bv_length]; with_reducible assumption) | (simp [cat]; done) | (simp [cat]; omega) | rfl)) rfl ?_
        refine p_val (e_neq rfl rfl) rfl ?_
        refine p_nil (x_then ?_)
        refine s_cond rfl (fun hc29 => ?_) (fun hc29 => ?_)
        · refine s_seq (s_plain ?_)
          refine p_val (e_field rfl Try.underlying40 rfl sz3 (by decide)) rfl ?_
          refine p_val (e_loadF1 (i := 1) (off := 1) rfl ag3 S (j := 0) rfl rfl rfl (by first | with_reducible assumption | (rw [bv_length]; with_reducible assumption) | (rw [List.size_toArray, bv_length]; with_reducible assumption) | (simp [cat]; done) | (simp [cat]; omega) | rfl)) rfl ?_
          refine p_val (e_move (v := .slice _ _ _) rfl) rfl ?_
          refine p_val (e_len rfl Try.underlying24) rfl ?_
          refine p_val (e_add64 rfl rfl (by omega)) rfl ?_
          refine p_val (e_field rfl Try.underlying40 rfl sz3 (by decide)) rfl ?_
          refine p_does (d_storeF1 (v := .int _ _) (off := 1) S 0 1 rfl rfl rfl sz3 rfl rfl rfl (by first | with_reducible assumption | (rw [bv_length]; with_reducible assumption) | (rw [List.size_toArray, bv_length]; with_reducible assumption) | (simp [cat]; done) | (simp [cat]; omega) | rfl)) rfl ?_
          intro _ w S
          refine p_nil (x_then (s_seq (s_plain ?_)))
          refine p_val (e_field rfl Try.underlying40 rfl sz3 (by decide)) rfl ?_
          refine p_val (e_loadF1 (i := 0) (off := 0) rfl ag3 S (j := 0) rfl rfl rfl (by first | with_reducible assumption | (rw [bv_length]; with_reducible assumption) | (rw [List.size_toArray, bv_length]; with_reducible assumption) | (simp [cat]; done) | (simp [cat]; omega) | rfl)) rfl ?_
          refine p_val (e_neq rfl rfl) rfl ?_
          refine p_nil (x_then ?_)
          refine s_cond rfl (fun hc38 => ?_) (fun hc38 => ?_)
          · refine s_plain ?_
            refine p_val (e_field rfl Try.underlying40 rfl sz3 (by decide)) rfl ?_
            refine p_val (e_loadF1 (i := 2) (off := 2) rfl ag3 S (j := 0) rfl rfl rfl (by first | with_reducible assumption | (rw [bv_length]; with_reducible assumption) | (rw [List.size_toArray, bv_length]; with_reducible assumption) | (simp [cat]; done) | (simp [cat]; omega) | rfl)) rfl ?_
            refine p_val (e_move (v := .slice _ _ _) rfl) rfl ?_
            refine p_val (e_len rfl Try.underlying24) rfl ?_
            refine p_val (e_add64 rfl rfl (by omega)) rfl ?_
            refine p_val (e_field rfl Try.underlying40 rfl sz3 (by decide)) rfl ?_
            refine p_does (d_storeF1 (v := .int _ _) (off := 2) S 0 2 rfl rfl rfl sz3 rfl rfl rfl (by first | with_reducible assumption | (rw [bv_length]; with_reducible assumption) | (rw [List.size_toArray, bv_length]; with_reducible assumption) | (simp [cat]; done) | (simp [cat]; omega) | rfl)) rfl ?_
            intro _ w S
            refine p_nil ?_
            exact x_then ⟨_, rfl, _, ⟨n.k,  n.a + a.length,  n.b + a.length⟩, upds_eq ⟨rfl, rfl, rfl, rfl, rfl, rfl, rfl, rfl, trivial⟩, by unfold shift; rw [if_neg hc29, if_neg hc38], S⟩
          · refine s_skip ?_
            exact x_then ⟨_, rfl, _, ⟨n.k,  n.a + a.length,  n.b⟩, upds_eq ⟨rfl, rfl, rfl, rfl, rfl, rfl, rfl, rfl, trivial⟩, by unfold shift; rw [if_neg hc29, if_pos (Classical.not_not.1 hc38)], S⟩
        · refine s_skip ?_
          exact x_then ⟨_, rfl, _, n, upds_eq ⟨rfl, rfl, rfl, rfl, rfl, rfl, rfl, rfl, trivial⟩, by unfold shift; rw [if_pos (Classical.not_not.1 hc29)], S⟩
      · rintro f w ⟨u, n2, rfl, hn2, S⟩
        refine x_then (s_plain ?_)
        refine p_val (e_move (v := .slice _ _ _) rfl) rfl ?_
        refine p_val (e_loadW 0 rfl ag40 sz40 S rfl rfl (by first | with_reducible assumption | (rw [bv_length]; with_reducible assumption) | (rw [List.size_toArray, bv_length]; with_reducible assumption) | (simp [cat]; done) | (simp [cat]; omega) | rfl)) rfl ?_
        refine p_does (d_litV S Try.underlying24 sz40 zv40 rfl (by decide) (E := [_]) rfl rfl (by intro l hl; simp at hl; rw [hl]; first | rfl | (simp [cat, ]; done)) (by decide)) rfl ?_
        rintro _ w ⟨b47, rfl, S⟩
        refine p_does (d_append S 2 rfl rfl Try.underlying24 el40 rfl rfl (S.rdRw 0 rfl rfl) (by first | exact bv_one _ | exact sv_one _ | exact iv_one _ | with_reducible assumption | (refine One.mem ?_; repeat (first | exact One.bv _ | exact One.sv _ | exact One.iv _ | exact One.nil | exact One.cat0 | refine One.cat1 ?_ ?_ | refine One.cons rfl ?_ | exact ndv_one _ | exact  ndL_one _ | refine One.append ?_ ?_))) (by first | omega | (simp only [List.length_append, List.length_cons, List.length_nil, bv_length]; omega) | (simp [cat]; omega)) (by unfold maxLen; first | omega | (simp only [List.length_append, List.length_cons, List.length_nil, bv_length]; omega))) rfl ?_
        rintro _ w ⟨k48, c48, rfl, S⟩
        refine p_val (e_assign (v := .slice _ _ _) rfl) rfl ?_
        refine p_nil (x_in (x_then (s_plain ?_)))
        refine p_val (e_add64 rfl rfl (by omega)) rfl ?_
        refine p_val (e_move (v := .int _ _) rfl) rfl ?_
        refine p_nil ?_
        refine x_round (g + 1) _ rfl ⟨_, _, _, _, _, upds_eq ⟨rfl, rfl, rfl, rfl, rfl, rfl, rfl, trivial⟩, by first | omega | rfl | with_reducible assumption | (simp; done) | (simp; omega), by first | omega | rfl | with_reducible assumption | (simp; done) | (simp; omega), by rw [map_take_getD (by omega), ← hn, ← hn2, ← List.append_assoc, ndv_append (a ++ _)]; rfl, S.pk [2] rfl⟩ (by omega)
    · refine s_exit (x_then_exit (x_then_exit (x_in_same (x_then (s_seq (s_plain ?_))))))
      refine p_val (e_move (v := .slice _ _ _) rfl) rfl ?_
      refine p_val (e_move (v := .int _ _) rfl) rfl ?_
      refine p_val (e_move (v := .slice _ _ _) rfl) rfl ?_
      refine p_val (e_len rfl Try.underlying24) rfl ?_
      refine p_val (e_sub64 rfl rfl (by omega)) rfl ?_
      refine p_val (e_move (v := .slice _ _ _) rfl) rfl ?_
      refine p_val (e_len rfl Try.underlying24) rfl ?_
      refine p_val (e_move (v := .slice _ _ _) rfl) rfl ?_
      refine p_val (e_len rfl Try.underlying24) rfl ?_
      refine p_val (e_add64 rfl rfl (by omega)) rfl ?_
      refine p_val (e_sub64 rfl rfl (by omega)) rfl ?_
      refine p_val (e_buildS bt40 (Eq.trans (fill_cat (v := .int _ _) (l' := [[_]]) 0 1 rfl (rfl) (by first | with_reducible assumption | (rw [bv_length]; with_reducible assumption) | (rw [List.size_toArray, bv_length]; with_reducible assumption) | (simp [cat]; done) | (simp [cat]; omega) | rfl) (by first | with_reducible assumption | (rw [bv_length]; with_reducible assumption) | (rw [List.size_toArray, bv_length]; with_reducible assumption) | (simp [cat]; done) | (simp [cat]; omega) | rfl) (by first | with_reducible assumption | (rw [bv_length]; with_reducible assumption) | (rw [List.size_toArray, bv_length]; with_reducible assumption) | (simp [cat]; done) | (simp [cat]; omega) | rfl)) (Eq.trans (fill_cat (v := .int _ _) (l' := [[_]]) 1 1 rfl (rfl) (by first | with_reducible assumption | (rw [bv_length]; with_reducible assumption) | (rw [List.size_toArray, bv_length]; with_reducible assumption) | (simp [cat]; done) | (simp [cat]; omega) | rfl) (by first | with_reducible assumption | (rw [bv_length]; with_reducible assumption) | (rw [List.size_toArray, bv_length]; with_reducible assumption) | (simp [cat]; done) | (simp [cat]; omega) | rfl) (by first | with_reducible assumption | (rw [bv_length]; with_reducible assumption) | (rw [List.size_toArray, bv_length]; with_reducible assumption) | (simp [cat]; done) | (simp [cat]; omega) | rfl)) (Eq.trans (fill_cat (v := .int _ _) (l' := [[_]]) 2 1 rfl (rfl) (by first | with_reducible assumption | (rw [bv_length]; with_reducible assumption) | (rw [List.size_toArray, bv_length]; with_reducible assumption) | (simp [cat]; done) | (simp [cat]; omega) | rfl) (by first | with_reducible assumption | (rw [bv_length]; with_reducible assumption) | (rw [List.size_toArray, bv_length]; with_reducible assumption) | (simp [cat]; done) | (simp [cat]; omega) | rfl) (by first | with_reducible assumption | (rw [bv_length]; with_reducible assumption) | (rw [List.size_toArray, bv_length]; with_reducible assumption) | (simp [cat]; done) | (simp [cat]; omega) | rfl)) rfl)))) rfl ?_
      refine p_does (d_litV S Try.underlying24 sz40 zv40 rfl (by decide) (E := [_]) rfl rfl (by intro l hl; simp at hl; rw [hl]; first | rfl | (simp [cat, ]; done)) (by decide)) rfl ?_
      rintro _ w ⟨b62, rfl, S⟩
      refine p_does (d_append S 1 rfl rfl Try.underlying24 el40 rfl rfl (S.rdRw 0 rfl rfl) (by first | exact bv_one _ | exact sv_one _ | exact iv_one _ | with_reducible assumption | (refine One.mem ?_; repeat (first | exact One.bv _ | exact One.sv _ | exact One.iv _ | exact One.nil | exact One.cat0 | refine One.cat1 ?_ ?_ | refine One.cons rfl ?_ | exact ndv_one _ | exact  ndL_one _ | refine One.append ?_ ?_))) (by first | omega | (simp only [List.length_append, List.length_cons, List.length_nil, bv_length]; omega) | (simp [cat]; omega)) (by unfold maxLen; first | omega | (simp only [List.length_append, List.length_cons, List.length_nil, bv_length]; omega))) rfl ?_
      rintro _ w ⟨k63, c63, rfl, S⟩
      refine p_val (e_assign (v := .slice _ _ _) rfl) rfl ?_
      refine p_nil (x_then (s_ret ?_))
      exact post1 (v := .slice _ _ _) Try.results16 rfl (by obtain rfl : g = b.length := (by omega); have e := join_two (a := a) (b := b) hc13; have hl : a.length + b.length + 1 = (tJoin k a b).length := (by rw [e]; simp only [List.length_append, List.length_map, List.length_cons, List.length_nil]; try omega); rw [← hl]; refine ⟨_, _, rfl, ?_⟩; unfold nodeR; rw [e, ndv_append]; rw [List.take_length] at S; exact S.pk [1] rfl)
end Go.Proofs.Ytcgcjklpilbndaa

/- Which terms may be, walked. It proves no statement by itself. -/
set_option linter.unusedSimpArgs false
set_option linter.unusedVariables false
set_option maxRecDepth 100000
set_option maxHeartbeats 1000000
namespace Go.Proofs.Ytcgcjklpilbndaa
open Go Go.RowKit E
attribute [local irreducible] wpList seqH treeH
theorem tm_right (w0 : World) (A : Option Addr) (c : Nat) (t : List Nd) (R : Rd w0 3 A t.length (ndv t)) :
    Ret Try.prog 60 [.slice A t.length c] w0 fun v w' => v = .bool (decide (tRight t)) ∧ Below w0.heap.size w0 w' := by
  refine enter Try.func60 rfl Try.ntmps60 (Nat.le_of_ble_eq_true rfl) ?_
  have S := St.init w0
  refine s_seq (s_plain ?_)
  refine p_val (e_assign (v := .bool _) rfl) rfl ?_
  refine p_nil (x_then (s_seq (s_seq ?_)))
  refine s_cutK (ks := []) (ps := []) [(0, .slice _ _ _)] ⟨rfl, trivial⟩ S (fun keep ks ps f' w' => ∃ u bb, f' = upds u ((12, .bool bb) :: keep) ∧ (bb = true ↔ ((((t.length : Nat) : Int) < (1 : Int)) ∨ ((64 : Int) < ((t.length : Nat) : Int)))) ∧ St w0 w' [] ks ps) ?_ ?_
  · refine s_plain ?_
    refine p_val (e_move (v := .slice _ _ _) rfl) rfl ?_
    refine p_val (e_len rfl Try.underlying24) rfl ?_
    refine p_valB (e_lss rfl rfl) rfl (fun hg7 => ?_) (fun hg7 => ?_)
    · refine p_val (e_move (v := .bool _) rfl) rfl ?_
      refine p_no rfl rfl rfl rfl rfl ?_
      refine p_no rfl rfl rfl rfl rfl ?_
      refine p_no rfl rfl rfl rfl rfl ?_
      refine p_val (e_pick_t rfl rfl) rfl ?_
      exact p_nil (x_then ⟨_, rfl, _, _, upds_eq ⟨rfl, rfl, trivial⟩, by first | (simp only [decide_eq_true_eq, eq_self, true_iff, iff_true, iff_false, Bool.false_eq_true, false_iff, ge_iff_le, gt_iff_lt, true_and, and_true, false_and, and_false, true_or, or_true, false_or, or_false, not_true_eq_false, not_false_eq_true]; omega) | (simp; done) | omega | (simp_all; done), S⟩)
    · refine p_val (e_move (v := .bool _) rfl) rfl ?_
      refine pg_val rfl rfl rfl rfl rfl (e_move (v := .slice _ _ _) rfl) ?_
      refine pg_val rfl rfl rfl rfl rfl (e_len rfl Try.underlying24) ?_
      refine pg_val rfl rfl rfl rfl rfl (e_gtr rfl rfl) ?_
      refine p_val (e_pick_f rfl rfl) rfl ?_
      exact p_nil (x_then ⟨_, rfl, _, _, upds_eq ⟨rfl, rfl, trivial⟩, by first | (simp only [decide_eq_true_eq, eq_self, true_iff, iff_true, iff_false, Bool.false_eq_true, false_iff, ge_iff_le, gt_iff_lt, true_and, and_true, false_and, and_false, true_or, or_true, false_or, or_false, not_true_eq_false, not_false_eq_true]; omega) | (simp; done) | omega | (simp_all; done), S⟩)
  · rintro f w ⟨u, b12, rfl, hb12, S⟩
    refine x_then ?_
    refine s_condb rfl (fun hc12 => ?_) (fun hc12 => ?_)
    · have hp12 : ((((t.length : Nat) : Int) < (1 : Int)) ∨ ((64 : Int) < ((t.length : Nat) : Int))) := hb12.1 hc12
      refine s_seq (s_plain ?_)
      refine p_val (e_assign (v := .bool _) rfl) rfl ?_
      refine p_nil (x_then (s_ret (x_then_ret ?_)))
      exact post1 (v := .bool _) Try.results60 rfl (⟨by rw [decide_eq_false (fun h => by have h1 := h.1; have h2 := h.2.1; omega)], S.to_below⟩)
    · have hp12 : ¬ ((((t.length : Nat) : Int) < (1 : Int)) ∨ ((64 : Int) < ((t.length : Nat) : Int))) := fun h => by rw [hb12.2 h] at hc12; cases hc12
      refine s_skip (x_then (s_seq (s_seq (s_plain ?_))))
      refine p_val (e_move (v := .slice _ _ _) rfl) rfl ?_
      refine p_val (e_len rfl Try.underlying24) rfl ?_
      refine p_val (e_move (v := .int _ _) rfl) rfl ?_
      refine p_nil (x_then (s_block ?_))
      refine s_loopK (α := Nat) (ks := []) (ps := []) [(13, .slice _ _ _), (14, .int _ _)] ⟨rfl, rfl, trivial⟩ S (fun keep ks ps g f' w' => ∃ u, f' = upds u ((15, .int .i64 (g : Int)) :: keep) ∧ (g ≤ t.length) ∧ (∀ i, i < g → ndOk i (t.getD i nd0)) ∧ St w0 w' [] [] []) (fun g => t.length - g) (0) (⟨_, upds_eq ⟨rfl, rfl, rfl, trivial⟩, by first | omega | rfl | with_reducible assumption | (simp; done) | (simp; omega), fun i hi => absurd hi (Nat.not_lt_zero _), S⟩) ?_
      rintro g f w ⟨u, rfl, hg, hok, S⟩
      refine s_seq (s_plain ?_)
      refine p_val (e_lss rfl rfl) rfl ?_
      refine p_nil (x_then (s_seq ?_))
      refine s_cond rfl (fun hc16 => ?_) (fun hc16 => ?_)
      · obtain ⟨n, hn⟩ : ∃ n, n = t.getD g nd0 := ⟨_, rfl⟩
        have hat : t[(g : Int).toNat]? = some n := by rw [hn]; exact getD_at nd0 (by omega)
        have hno : ¬ ndOk g n → ¬ tRight t := fun h hr => h (by rw [hn]; exact hr.2.2 g (by omega))
        refine s_skip (x_then (s_seq ?_))
        refine s_cutK (ks := []) (ps := []) [(13, .slice _ _ _), (14, .int _ _), (15, .int _ _)] ⟨rfl, rfl, rfl, trivial⟩ S (fun keep ks ps f' w' => ∃ u, f' = upds u (keep) ∧ (ndOk g n) ∧ St w0 w' [] [] []) ?_ ?_
        · refine s_block (s_seq (s_plain ?_))
          refine p_val (e_move (v := .int _ _) rfl) rfl ?_
          refine p_val (e_ixR (S.rdOld R rfl) (by decide) rfl rfl Try.underlying24 sz40 (by omega)) rfl ?_
          refine p_val (e_loadRA rfl ag40 sz40 (by decide) ((Rd.elemA (S.rdOld R rfl) (fun _ _ => rfl) (hat)))) rfl ?_
          refine p_does (d_allocA S zs40) rfl ?_
          rintro _ w ⟨b4, rfl, S⟩
          refine p_val (e_assign (v := .int _ _) rfl) rfl ?_
          refine p_does (d_storeW S 0 rfl rfl (by first | exact bv_one _ | exact sv_one _ | exact iv_one _ | with_reducible assumption | (refine One.mem ?_; repeat (first | exact One.bv _ | exact One.sv _ | exact One.iv _ | exact One.nil | exact One.cat0 | refine One.cat1 ?_ ?_ | refine One.cons rfl ?_ | exact ndv_one _ | exact  ndL_one _ | refine One.append ?_ ?_))) sz40 (by first | with_reducible assumption | (rw [bv_length]; with_reducible assumption) | (rw [List.size_toArray, bv_length]; with_reducible assumption) | (simp [cat]; done) | (simp [cat]; omega) | rfl) rfl rfl (by first | with_reducible assumption | (rw [bv_length]; with_reducible assumption) | (rw [List.size_toArray, bv_length]; with_reducible assumption) | (simp [cat]; done) | (simp [cat]; omega) | rfl)) rfl ?_
          intro _ w S
          refine p_nil (x_then (s_seq (s_plain ?_)))
          refine p_val (e_field rfl Try.underlying40 rfl sz3 (by decide)) rfl ?_
          refine p_val (e_loadF1 (i := 0) (off := 0) rfl ag3 S (j := 0) rfl rfl rfl (by first | with_reducible assumption | (rw [bv_length]; with_reducible assumption) | (rw [List.size_toArray, bv_length]; with_reducible assumption) | (simp [cat]; done) | (simp [cat]; omega) | rfl)) rfl ?_
          refine p_nil (x_then (s_block (s_seq (s_plain ?_))))
          refine p_val (e_eql rfl rfl) rfl ?_
          refine p_val (e_assign (v := .bool _) rfl) rfl ?_
          refine p_nil (x_then ?_)
          refine s_cond rfl (fun hc22 => ?_) (fun hc22 => ?_)
          · refine s_seq ?_
            refine s_cutK (ks := [some b4]) (ps := [Ex _ _]) [(13, .slice _ _ _), (14, .int _ _), (15, .int _ _)] ⟨rfl, rfl, rfl, trivial⟩ S (fun keep ks ps f' w' => ∃ u bb, f' = upds u ((36, .bool bb) :: keep) ∧ (bb = true ↔ (((n.a < (0 : Int)) ∨ ((1048576 : Int) < n.a)) ∨ (¬ n.b = (0 : Int)))) ∧ St w0 w' [] ks ps) ?_ ?_
            · refine s_plain ?_
              refine p_val (e_field rfl Try.underlying40 rfl sz3 (by decide)) rfl ?_
              refine p_val (e_loadF1 (i := 1) (off := 1) rfl ag3 S (j := 0) rfl rfl rfl (by first | with_reducible assumption | (rw [bv_length]; with_reducible assumption) | (rw [List.size_toArray, bv_length]; with_reducible assumption) | (simp [cat]; done) | (simp [cat]; omega) | rfl)) rfl ?_
              refine p_valB (e_lss rfl rfl) rfl (fun hg26 => ?_) (fun hg26 => ?_)
              · refine p_val (e_move (v := .bool _) rfl) rfl ?_
                refine p_no rfl rfl rfl rfl rfl ?_
                refine p_no rfl rfl rfl rfl rfl ?_
                refine p_no rfl rfl rfl rfl rfl ?_
                refine p_val (e_pick_t rfl rfl) rfl ?_
                refine p_val (e_move (v := .bool _) rfl) rfl ?_
                refine p_no rfl rfl rfl rfl rfl ?_
                refine p_no rfl rfl rfl rfl rfl ?_
                refine p_no rfl rfl rfl rfl rfl ?_
                refine p_val (e_pick_t rfl rfl) rfl ?_
                exact p_nil (x_then ⟨_, rfl, _, _, upds_eq ⟨rfl, rfl, rfl, rfl, trivial⟩, by first | (simp only [decide_eq_true_eq, eq_self, true_iff, iff_true, iff_false, Bool.false_eq_true, false_iff, ge_iff_le, gt_iff_lt, true_and, and_true, false_and, and_false, true_or, or_true, false_or, or_false, not_true_eq_false, not_false_eq_true]; omega) | (simp; done) | omega | (simp_all; done), S⟩)
              · refine p_val (e_move (v := .bool _) rfl) rfl ?_
                refine pg_val rfl rfl rfl rfl rfl (e_field rfl Try.underlying40 rfl sz3 (by decide)) ?_
                refine pg_val rfl rfl rfl rfl rfl (e_loadF1 (i := 1) (off := 1) rfl ag3 S (j := 0) rfl rfl rfl (by first | with_reducible assumption | (rw [bv_length]; with_reducible assumption) | (rw [List.size_toArray, bv_length]; with_reducible assumption) | (simp [cat]; done) | (simp [cat]; omega) | rfl)) ?_
                refine pg_valB rfl rfl rfl rfl rfl (e_gtr rfl rfl) (fun hg30 => ?_) (fun hg30 => ?_)
                · refine p_val (e_pick_f rfl rfl) rfl ?_
                  refine p_val (e_move (v := .bool _) rfl) rfl ?_
                  refine p_no rfl rfl rfl rfl rfl ?_
                  refine p_no rfl rfl rfl rfl rfl ?_
                  refine p_no rfl rfl rfl rfl rfl ?_
                  refine p_val (e_pick_t rfl rfl) rfl ?_
                  exact p_nil (x_then ⟨_, rfl, _, _, upds_eq ⟨rfl, rfl, rfl, rfl, trivial⟩, by first | (simp only [decide_eq_true_eq, eq_self, true_iff, iff_true, iff_false, Bool.false_eq_true, false_iff, ge_iff_le, gt_iff_lt, true_and, and_true, false_and, and_false, true_or, or_true, false_or, or_false, not_true_eq_false, not_false_eq_true]; omega) | (simp; done) | omega | (simp_all; done), S⟩)
                · refine p_val (e_pick_f rfl rfl) rfl ?_
                  refine p_val (e_move (v := .bool _) rfl) rfl ?_
                  refine pg_val rfl rfl rfl rfl rfl (e_field rfl Try.underlying40 rfl sz3 (by decide)) ?_
                  refine pg_val rfl rfl rfl rfl rfl (e_loadF1 (i := 2) (off := 2) rfl ag3 S (j := 0) rfl rfl rfl (by first | with_reducible assumption | (rw [bv_length]; with_reducible assumption) | (rw [List.size_toArray, bv_length]; with_reducible assumption) | (simp [cat]; done) | (simp [cat]; omega) | rfl)) ?_
                  refine pg_val rfl rfl rfl rfl rfl (e_neq rfl rfl) ?_
                  refine p_val (e_pick_f rfl rfl) rfl ?_
                  exact p_nil (x_then ⟨_, rfl, _, _, upds_eq ⟨rfl, rfl, rfl, rfl, trivial⟩, by first | (simp only [decide_eq_true_eq, eq_self, true_iff, iff_true, iff_false, Bool.false_eq_true, false_iff, ge_iff_le, gt_iff_lt, true_and, and_true, false_and, and_false, true_or, or_true, false_or, or_false, not_true_eq_false, not_false_eq_true]; omega) | (simp; done) | omega | (simp_all; done), S⟩)
            · rintro f w ⟨u, b36, rfl, hb36, S⟩
              refine x_then ?_
              refine s_condb rfl (fun hc36 => ?_) (fun hc36 => ?_)
              · have hp36 : (((n.a < (0 : Int)) ∨ ((1048576 : Int) < n.a)) ∨ (¬ n.b = (0 : Int))) := hb36.1 hc36
                refine s_seq (s_plain ?_)
                refine p_val (e_assign (v := .bool _) rfl) rfl ?_
                refine p_nil (x_then (s_ret (x_in_ret (x_in_ret (x_then_ret (x_then_ret (x_then_ret (x_in_ret (x_then_ret ?_)))))))))
                exact post1 (v := .bool _) Try.results60 rfl (⟨by rw [decide_eq_false (hno (by unfold ndOk; omega))], S.to_below⟩)
              · have hp36 : ¬ (((n.a < (0 : Int)) ∨ ((1048576 : Int) < n.a)) ∨ (¬ n.b = (0 : Int))) := fun h => by rw [hb36.2 h] at hc36; cases hc36
                refine s_skip (x_in (x_in ?_))
                exact x_then ⟨_, rfl, _, upds_eq ⟨rfl, rfl, rfl, trivial⟩, by unfold ndOk; omega, S.pk [] rfl⟩
          · refine s_seq (s_plain ?_)
            refine p_val (e_eql rfl rfl) rfl ?_
            refine p_val (e_assign (v := .bool _) rfl) rfl ?_
            refine p_nil (x_then ?_)
            refine s_cond rfl (fun hc37 => ?_) (fun hc37 => ?_)
            · refine s_seq ?_
              refine s_cutK (ks := [some b4]) (ps := [Ex _ _]) [(13, .slice _ _ _), (14, .int _ _), (15, .int _ _)] ⟨rfl, rfl, rfl, trivial⟩ S (fun keep ks ps f' w' => ∃ u bb, f' = upds u ((52, .bool bb) :: keep) ∧ (bb = true ↔ (((n.a < (0 : Int)) ∨ ((g : Int) ≤ n.a)) ∨ (¬ n.b = (0 : Int)))) ∧ St w0 w' [] ks ps) ?_ ?_
              · refine s_plain ?_
                refine p_val (e_field rfl Try.underlying40 rfl sz3 (by decide)) rfl ?_
                refine p_val (e_loadF1 (i := 1) (off := 1) rfl ag3 S (j := 0) rfl rfl rfl (by first | with_reducible assumption | (rw [bv_length]; with_reducible assumption) | (rw [List.size_toArray, bv_length]; with_reducible assumption) | (simp [cat]; done) | (simp [cat]; omega) | rfl)) rfl ?_
                refine p_valB (e_lss rfl rfl) rfl (fun hg41 => ?_) (fun hg41 => ?_)
                · refine p_val (e_move (v := .bool _) rfl) rfl ?_
                  refine p_no rfl rfl rfl rfl rfl ?_
                  refine p_no rfl rfl rfl rfl rfl ?_
                  refine p_no rfl rfl rfl rfl rfl ?_
                  refine p_no rfl rfl rfl rfl rfl ?_
                  refine p_val (e_pick_t rfl rfl) rfl ?_
                  refine p_val (e_move (v := .bool _) rfl) rfl ?_
                  refine p_no rfl rfl rfl rfl rfl ?_
                  refine p_no rfl rfl rfl rfl rfl ?_
                  refine p_no rfl rfl rfl rfl rfl ?_
                  refine p_val (e_pick_t rfl rfl) rfl ?_
                  exact p_nil (x_then ⟨_, rfl, _, _, upds_eq ⟨rfl, rfl, rfl, rfl, trivial⟩, by first | (simp only [decide_eq_true_eq, eq_self, true_iff, iff_true, iff_false, Bool.false_eq_true, false_iff, ge_iff_le, gt_iff_lt, true_and, and_true, false_and, and_false, true_or, or_true, false_or, or_false, not_true_eq_false, not_false_eq_true]; omega) | (simp; done) | omega | (simp_all; done), S⟩)
                · refine p_val (e_move (v := .bool _) rfl) rfl ?_
                  refine pg_val rfl rfl rfl rfl rfl (e_field rfl Try.underlying40 rfl sz3 (by decide)) ?_
                  refine pg_val rfl rfl rfl rfl rfl (e_loadF1 (i := 1) (off := 1) rfl ag3 S (j := 0) rfl rfl rfl (by first | with_reducible assumption | (rw [bv_length]; with_reducible assumption) | (rw [List.size_toArray, bv_length]; with_reducible assumption) | (simp [cat]; done) | (simp [cat]; omega) | rfl)) ?_
                  refine pg_val rfl rfl rfl rfl rfl (e_move (v := .int _ _) rfl) ?_
                  refine pg_valB rfl rfl rfl rfl rfl (e_geq rfl rfl) (fun hg46 => ?_) (fun hg46 => ?_)
                  · refine p_val (e_pick_f rfl rfl) rfl ?_
                    refine p_val (e_move (v := .bool _) rfl) rfl ?_
                    refine p_no rfl rfl rfl rfl rfl ?_
                    refine p_no rfl rfl rfl rfl rfl ?_
                    refine p_no rfl rfl rfl rfl rfl ?_
                    refine p_val (e_pick_t rfl rfl) rfl ?_
                    exact p_nil (x_then ⟨_, rfl, _, _, upds_eq ⟨rfl, rfl, rfl, rfl, trivial⟩, by first | (simp only [decide_eq_true_eq, eq_self, true_iff, iff_true, iff_false, Bool.false_eq_true, false_iff, ge_iff_le, gt_iff_lt, true_and, and_true, false_and, and_false, true_or, or_true, false_or, or_false, not_true_eq_false, not_false_eq_true]; omega) | (simp; done) | omega | (simp_all; done), S⟩)
                  · refine p_val (e_pick_f rfl rfl) rfl ?_
                    refine p_val (e_move (v := .bool _) rfl) rfl ?_
                    refine pg_val rfl rfl rfl rfl rfl (e_field rfl Try.underlying40 rfl sz3 (by decide)) ?_
                    refine pg_val rfl rfl rfl rfl rfl (e_loadF1 (i := 2) (off := 2) rfl ag3 S (j := 0) rfl rfl rfl (by first | with_reducible assumption | (rw [bv_length]; with_reducible assumption) | (rw [List.size_toArray, bv_length]; with_reducible assumption) | (simp [cat]; done) | (simp [cat]; omega) | rfl)) ?_
                    refine pg_val rfl rfl rfl rfl rfl (e_neq rfl rfl) ?_
                    refine p_val (e_pick_f rfl rfl) rfl ?_
                    exact p_nil (x_then ⟨_, rfl, _, _, upds_eq ⟨rfl, rfl, rfl, rfl, trivial⟩, by first | (simp only [decide_eq_true_eq, eq_self, true_iff, iff_true, iff_false, Bool.false_eq_true, false_iff, ge_iff_le, gt_iff_lt, true_and, and_true, false_and, and_false, true_or, or_true, false_or, or_false, not_true_eq_false, not_false_eq_true]; omega) | (simp; done) | omega | (simp_all; done), S⟩)
              · rintro f w ⟨u, b52, rfl, hb52, S⟩
                refine x_then ?_
                refine s_condb rfl (fun hc52 => ?_) (fun hc52 => ?_)
                · have hp52 : (((n.a < (0 : Int)) ∨ ((g : Int) ≤ n.a)) ∨ (¬ n.b = (0 : Int))) := hb52.1 hc52
                  refine s_seq (s_plain ?_)
                  refine p_val (e_assign (v := .bool _) rfl) rfl ?_
                  refine p_nil (x_then (s_ret (x_in_ret (x_in_ret (x_then_ret (x_then_ret (x_then_ret (x_in_ret (x_then_ret ?_)))))))))
                  exact post1 (v := .bool _) Try.results60 rfl (⟨by rw [decide_eq_false (hno (by unfold ndOk; omega))], S.to_below⟩)
                · have hp52 : ¬ (((n.a < (0 : Int)) ∨ ((g : Int) ≤ n.a)) ∨ (¬ n.b = (0 : Int))) := fun h => by rw [hb52.2 h] at hc52; cases hc52
                  refine s_skip (x_in (x_in ?_))
                  exact x_then ⟨_, rfl, _, upds_eq ⟨rfl, rfl, rfl, trivial⟩, by unfold ndOk; omega, S.pk [] rfl⟩
            · refine s_seq ?_
              refine s_cutK (ks := [some b4]) (ps := [Ex _ _]) [(3, .int _ _), (4, .pointer _), (13, .slice _ _ _), (14, .int _ _), (15, .int _ _)] ⟨rfl, rfl, rfl, rfl, rfl, trivial⟩ S (fun keep ks ps f' w' => ∃ u bb, f' = upds u ((53, .bool bb) :: keep) ∧ (bb = true ↔ (n.k = 2 ∨ n.k = 4 ∨ n.k = 5)) ∧ St w0 w' [] [some b4] [(ps.getD 0 fun _ => True)]) ?_ ?_
              · refine s_seq (s_plain ?_)
                refine p_val (e_eql rfl rfl) rfl ?_
                refine p_val (e_assign (v := .bool _) rfl) rfl ?_
                refine p_nil (x_then ?_)
                refine s_cond rfl (fun hc53 => ?_) (fun hc53 => ?_)
                · refine s_skip ?_
                  exact x_then ⟨_, rfl, _, _, upds_eq ⟨rfl, rfl, rfl, rfl, rfl, rfl, trivial⟩, by rw [decide_eq_true_eq]; omega, S⟩
                · refine s_seq (s_plain ?_)
                  refine p_val (e_eql rfl rfl) rfl ?_
                  refine p_val (e_assign (v := .bool _) rfl) rfl ?_
                  refine p_nil (x_then ?_)
                  refine s_cond rfl (fun hc53 => ?_) (fun hc53 => ?_)
                  · refine s_skip ?_
                    exact x_then ⟨_, rfl, _, _, upds_eq ⟨rfl, rfl, rfl, rfl, rfl, rfl, trivial⟩, by rw [decide_eq_true_eq]; omega, S⟩
                  · refine s_plain ?_
                    refine p_val (e_eql rfl rfl) rfl ?_
                    refine p_val (e_assign (v := .bool _) rfl) rfl ?_
                    refine p_nil ?_
                    exact x_then ⟨_, rfl, _, _, upds_eq ⟨rfl, rfl, rfl, rfl, rfl, rfl, trivial⟩, by rw [decide_eq_true_eq]; omega, S⟩
              · rintro f w ⟨u, bb, rfl, hbb, S⟩
                refine x_then ?_
                refine s_condb rfl (fun hc53 => ?_) (fun hc53 => ?_)
                · refine s_seq ?_
                  refine s_cutK (ks := [some b4]) (ps := [Ex _ _]) [(13, .slice _ _ _), (14, .int _ _), (15, .int _ _)] ⟨rfl, rfl, rfl, trivial⟩ S (fun keep ks ps f' w' => ∃ u bb, f' = upds u ((76, .bool bb) :: keep) ∧ (bb = true ↔ ((((n.a < (0 : Int)) ∨ ((g : Int) ≤ n.a)) ∨ (n.b < (0 : Int))) ∨ ((g : Int) ≤ n.b))) ∧ St w0 w' [] ks ps) ?_ ?_
                  · refine s_plain ?_
                    refine p_val (e_field rfl Try.underlying40 rfl sz3 (by decide)) rfl ?_
                    refine p_val (e_loadF1 (i := 1) (off := 1) rfl ag3 S (j := 0) rfl rfl rfl (by first | with_reducible assumption | (rw [bv_length]; with_reducible assumption) | (rw [List.size_toArray, bv_length]; with_reducible assumption) | (simp [cat]; done) | (simp [cat]; omega) | rfl)) rfl ?_
                    refine p_valB (e_lss rfl rfl) rfl (fun hg59 => ?_) (fun hg59 => ?_)
                    · refine p_val (e_move (v := .bool _) rfl) rfl ?_
                      refine p_no rfl rfl rfl rfl rfl ?_
                      refine p_no rfl rfl rfl rfl rfl ?_
                      refine p_no rfl rfl rfl rfl rfl ?_
                      refine p_no rfl rfl rfl rfl rfl ?_
                      refine p_val (e_pick_t rfl rfl) rfl ?_
                      refine p_val (e_move (v := .bool _) rfl) rfl ?_
                      refine p_no rfl rfl rfl rfl rfl ?_
                      refine p_no rfl rfl rfl rfl rfl ?_
                      refine p_no rfl rfl rfl rfl rfl ?_
                      refine p_val (e_pick_t rfl rfl) rfl ?_
                      refine p_val (e_move (v := .bool _) rfl) rfl ?_
                      refine p_no rfl rfl rfl rfl rfl ?_
                      refine p_no rfl rfl rfl rfl rfl ?_
                      refine p_no rfl rfl rfl rfl rfl ?_
                      refine p_no rfl rfl rfl rfl rfl ?_
                      refine p_val (e_pick_t rfl rfl) rfl ?_
                      exact p_nil (x_then ⟨_, rfl, _, _, upds_eq ⟨rfl, rfl, rfl, rfl, trivial⟩, by first | (simp only [decide_eq_true_eq, eq_self, true_iff, iff_true, iff_false, Bool.false_eq_true, false_iff, ge_iff_le, gt_iff_lt, true_and, and_true, false_and, and_false, true_or, or_true, false_or, or_false, not_true_eq_false, not_false_eq_true]; omega) | (simp; done) | omega | (simp_all; done), S⟩)
                    · refine p_val (e_move (v := .bool _) rfl) rfl ?_
                      refine pg_val rfl rfl rfl rfl rfl (e_field rfl Try.underlying40 rfl sz3 (by decide)) ?_
                      refine pg_val rfl rfl rfl rfl rfl (e_loadF1 (i := 1) (off := 1) rfl ag3 S (j := 0) rfl rfl rfl (by first | with_reducible assumption | (rw [bv_length]; with_reducible assumption) | (rw [List.size_toArray, bv_length]; with_reducible assumption) | (simp [cat]; done) | (simp [cat]; omega) | rfl)) ?_
                      refine pg_val rfl rfl rfl rfl rfl (e_move (v := .int _ _) rfl) ?_
                      refine pg_valB rfl rfl rfl rfl rfl (e_geq rfl rfl) (fun hg64 => ?_) (fun hg64 => ?_)
                      · refine p_val (e_pick_f rfl rfl) rfl ?_
                        refine p_val (e_move (v := .bool _) rfl) rfl ?_
                        refine p_no rfl rfl rfl rfl rfl ?_
                        refine p_no rfl rfl rfl rfl rfl ?_
                        refine p_no rfl rfl rfl rfl rfl ?_
                        refine p_val (e_pick_t rfl rfl) rfl ?_
                        refine p_val (e_move (v := .bool _) rfl) rfl ?_
                        refine p_no rfl rfl rfl rfl rfl ?_
                        refine p_no rfl rfl rfl rfl rfl ?_
                        refine p_no rfl rfl rfl rfl rfl ?_
                        refine p_no rfl rfl rfl rfl rfl ?_
                        refine p_val (e_pick_t rfl rfl) rfl ?_
                        exact p_nil (x_then ⟨_, rfl, _, _, upds_eq ⟨rfl, rfl, rfl, rfl, trivial⟩, by first | (simp only [decide_eq_true_eq, eq_self, true_iff, iff_true, iff_false, Bool.false_eq_true, false_iff, ge_iff_le, gt_iff_lt, true_and, and_true, false_and, and_false, true_or, or_true, false_or, or_false, not_true_eq_false, not_false_eq_true]; omega) | (simp; done) | omega | (simp_all; done), S⟩)
                      · refine p_val (e_pick_f rfl rfl) rfl ?_
                        refine p_val (e_move (v := .bool _) rfl) rfl ?_
                        refine pg_val rfl rfl rfl rfl rfl (e_field rfl Try.underlying40 rfl sz3 (by decide)) ?_
                        refine pg_val rfl rfl rfl rfl rfl (e_loadF1 (i := 2) (off := 2) rfl ag3 S (j := 0) rfl rfl rfl (by first | with_reducible assumption | (rw [bv_length]; with_reducible assumption) | (rw [List.size_toArray, bv_length]; with_reducible assumption) | (simp [cat]; done) | (simp [cat]; omega) | rfl)) ?_
                        refine pg_valB rfl rfl rfl rfl rfl (e_lss rfl rfl) (fun hg69 => ?_) (fun hg69 => ?_)
                        · refine p_val (e_pick_f rfl rfl) rfl ?_
                          refine p_val (e_move (v := .bool _) rfl) rfl ?_
                          refine p_no rfl rfl rfl rfl rfl ?_
                          refine p_no rfl rfl rfl rfl rfl ?_
                          refine p_no rfl rfl rfl rfl rfl ?_
                          refine p_no rfl rfl rfl rfl rfl ?_
                          refine p_val (e_pick_t rfl rfl) rfl ?_
                          exact p_nil (x_then ⟨_, rfl, _, _, upds_eq ⟨rfl, rfl, rfl, rfl, trivial⟩, by first | (simp only [decide_eq_true_eq, eq_self, true_iff, iff_true, iff_false, Bool.false_eq_true, false_iff, ge_iff_le, gt_iff_lt, true_and, and_true, false_and, and_false, true_or, or_true, false_or, or_false, not_true_eq_false, not_false_eq_true]; omega) | (simp; done) | omega | (simp_all; done), S⟩)
                        · refine p_val (e_pick_f rfl rfl) rfl ?_
                          refine p_val (e_move (v := .bool _) rfl) rfl ?_
                          refine pg_val rfl rfl rfl rfl rfl (e_field rfl Try.underlying40 rfl sz3 (by decide)) ?_
                          refine pg_val rfl rfl rfl rfl rfl (e_loadF1 (i := 2) (off := 2) rfl ag3 S (j := 0) rfl rfl rfl (by first | with_reducible assumption | (rw [bv_length]; with_reducible assumption) | (rw [List.size_toArray, bv_length]; with_reducible assumption) | (simp [cat]; done) | (simp [cat]; omega) | rfl)) ?_
                          refine pg_val rfl rfl rfl rfl rfl (e_move (v := .int _ _) rfl) ?_
                          refine pg_val rfl rfl rfl rfl rfl (e_geq rfl rfl) ?_
                          refine p_val (e_pick_f rfl rfl) rfl ?_
                          exact p_nil (x_then ⟨_, rfl, _, _, upds_eq ⟨rfl, rfl, rfl, rfl, trivial⟩, by first | (simp only [decide_eq_true_eq, eq_self, true_iff, iff_true, iff_false, Bool.false_eq_true, false_iff, ge_iff_le, gt_iff_lt, true_and, and_true, false_and, and_false, true_or, or_true, false_or, or_false, not_true_eq_false, not_false_eq_true]; omega) | (simp; done) | omega | (simp_all; done), S⟩)
                  · rintro f w ⟨u, b76, rfl, hb76, S⟩
                    refine x_then ?_
                    refine s_condb rfl (fun hc76 => ?_) (fun hc76 => ?_)
                    · have hp76 : ((((n.a < (0 : Int)) ∨ ((g : Int) ≤ n.a)) ∨ (n.b < (0 : Int))) ∨ ((g : Int) ≤ n.b)) := hb76.1 hc76
                      refine s_seq (s_plain ?_)
                      refine p_val (e_assign (v := .bool _) rfl) rfl ?_
                      refine p_nil (x_then (s_ret (x_in_ret (x_in_ret (x_then_ret (x_then_ret (x_then_ret (x_in_ret (x_then_ret ?_)))))))))
                      exact post1 (v := .bool _) Try.results60 rfl (⟨by rw [decide_eq_false (hno (by unfold ndOk; omega))], S.to_below⟩)
                    · have hp76 : ¬ ((((n.a < (0 : Int)) ∨ ((g : Int) ≤ n.a)) ∨ (n.b < (0 : Int))) ∨ ((g : Int) ≤ n.b)) := fun h => by rw [hb76.2 h] at hc76; cases hc76
                      refine s_skip (x_in (x_in ?_))
                      exact x_then ⟨_, rfl, _, upds_eq ⟨rfl, rfl, rfl, trivial⟩, by have := hbb.1 hc53; unfold ndOk; omega, S.pk [] rfl⟩
                · refine s_seq (s_plain ?_)
                  refine p_val (e_assign (v := .bool _) rfl) rfl ?_
                  refine p_nil (x_then (s_ret (x_in_ret (x_in_ret (x_then_ret (x_then_ret (x_then_ret (x_in_ret (x_then_ret ?_)))))))))
                  exact post1 (v := .bool _) Try.results60 rfl (⟨by rw [decide_eq_false (hno (by have : ¬ (n.k = 2 ∨ n.k = 4 ∨ n.k = 5) := fun h => by { rw [hbb.2 h] at hc53; cases hc53 }; unfold ndOk; omega))], S.to_below⟩)
        · rintro f w ⟨u, rfl, hok1, S⟩
          refine x_then (s_plain ?_)
          refine p_val (e_add64 rfl rfl (by omega)) rfl ?_
          refine p_val (e_move (v := .int _ _) rfl) rfl ?_
          refine p_nil ?_
          refine x_round (g + 1) _ rfl ⟨_, upds_eq ⟨rfl, rfl, rfl, trivial⟩, by first | omega | rfl | with_reducible assumption | (simp; done) | (simp; omega), fun i hi => by { by_cases h : i < g; exact hok i h; (obtain rfl : i = g := by omega); rw [← hn]; exact hok1 }, S⟩ (by omega)
      · refine s_exit (x_then_exit (x_then_exit (x_in_same (x_then (s_seq (s_plain ?_))))))
        refine p_val (e_assign (v := .bool _) rfl) rfl ?_
        refine p_nil (x_then (s_ret ?_))
        exact post1 (v := .bool _) Try.results60 rfl (⟨by rw [decide_eq_true (p := tRight t) ⟨by omega, by omega, fun i hi => hok i (by omega)⟩], S.to_below⟩)
theorem l37right (w0 : World) (A : Option Addr) (c : Nat) (t : List Nd) (R : Rd w0 3 A t.length (ndv t)) :
    Ret Try.prog 17 [.slice A t.length c] w0 fun v w' => v = .bool (decide (tRight t)) ∧ Below w0.heap.size w0 w' := by
  refine enter Try.func17 rfl Try.ntmps17 (Nat.le_of_ble_eq_true rfl) ?_
  have S := St.init w0
  refine s_seq (s_plain ?_)
  refine p_val (e_assign (v := .bool _) rfl) rfl ?_
  refine p_nil (x_then (s_seq (s_seq ?_)))
  refine s_cutK (ks := []) (ps := []) [(0, .slice _ _ _)] ⟨rfl, trivial⟩ S (fun keep ks ps f' w' => ∃ u bb, f' = upds u ((12, .bool bb) :: keep) ∧ (bb = true ↔ ((((t.length : Nat) : Int) < (1 : Int)) ∨ ((64 : Int) < ((t.length : Nat) : Int)))) ∧ St w0 w' [] ks ps) ?_ ?_
  · refine s_plain ?_
    refine p_val (e_move (v := .slice _ _ _) rfl) rfl ?_
    refine p_val (e_len rfl Try.underlying24) rfl ?_
    refine p_valB (e_lss rfl rfl) rfl (fun hg7 => ?_) (fun hg7 => ?_)
    · refine p_val (e_move (v := .bool _) rfl) rfl ?_
      refine p_no rfl rfl rfl rfl rfl ?_
      refine p_no rfl rfl rfl rfl rfl ?_
      refine p_no rfl rfl rfl rfl rfl ?_
      refine p_val (e_pick_t rfl rfl) rfl ?_
      exact p_nil (x_then ⟨_, rfl, _, _, upds_eq ⟨rfl, rfl, trivial⟩, by first | (simp only [decide_eq_true_eq, eq_self, true_iff, iff_true, iff_false, Bool.false_eq_true, false_iff, ge_iff_le, gt_iff_lt, true_and, and_true, false_and, and_false, true_or, or_true, false_or, or_false, not_true_eq_false, not_false_eq_true]; omega) | (simp; done) | omega | (simp_all; done), S⟩)
    · refine p_val (e_move (v := .bool _) rfl) rfl ?_
      refine pg_val rfl rfl rfl rfl rfl (e_move (v := .slice _ _ _) rfl) ?_
      refine pg_val rfl rfl rfl rfl rfl (e_len rfl Try.underlying24) ?_
      refine pg_val rfl rfl rfl rfl rfl (e_gtr rfl rfl) ?_
      refine p_val (e_pick_f rfl rfl) rfl ?_
      exact p_nil (x_then ⟨_, rfl, _, _, upds_eq ⟨rfl, rfl, trivial⟩, by first | (simp only [decide_eq_true_eq, eq_self, true_iff, iff_true, iff_false, Bool.false_eq_true, false_iff, ge_iff_le, gt_iff_lt, true_and, and_true, false_and, and_false, true_or, or_true, false_or, or_false, not_true_eq_false, not_false_eq_true]; omega) | (simp; done) | omega | (simp_all; done), S⟩)
  · rintro f w ⟨u, b12, rfl, hb12, S⟩
    refine x_then ?_
    refine s_condb rfl (fun hc12 => ?_) (fun hc12 => ?_)
    · have hp12 : ((((t.length : Nat) : Int) < (1 : Int)) ∨ ((64 : Int) < ((t.length : Nat) : Int))) := hb12.1 hc12
      refine s_seq (s_plain ?_)
      refine p_val (e_assign (v := .bool _) rfl) rfl ?_
      refine p_nil (x_then (s_ret (x_then_ret ?_)))
      exact post1 (v := .bool _) Try.results17 rfl (⟨by rw [decide_eq_false (fun h => by have h1 := h.1; have h2 := h.2.1; omega)], S.to_below⟩)
    · have hp12 : ¬ ((((t.length : Nat) : Int) < (1 : Int)) ∨ ((64 : Int) < ((t.length : Nat) : Int))) := fun h => by rw [hb12.2 h] at hc12; cases hc12
      refine s_skip (x_then (s_seq (s_seq (s_plain ?_))))
      refine p_val (e_assign (v := .int _ _) rfl) rfl ?_
      refine p_nil (x_then (s_block ?_))
      refine s_loopK (α := Nat) (ks := []) (ps := []) [(0, .slice _ _ _)] ⟨rfl, trivial⟩ S (fun keep ks ps g f' w' => ∃ u, f' = upds u ((3, .int .i64 (g : Int)) :: keep) ∧ (g ≤ t.length) ∧ (∀ i, i < g → ndOk i (t.getD i nd0)) ∧ St w0 w' [] [] []) (fun g => t.length - g) (0) (⟨_, upds_eq ⟨rfl, rfl, trivial⟩, by first | omega | rfl | with_reducible assumption | (simp; done) | (simp; omega), fun i hi => absurd hi (Nat.not_lt_zero _), S⟩) ?_
      rintro g f w ⟨u, rfl, hg, hok, S⟩
      refine s_seq (s_seq (s_plain ?_))
      refine p_val (e_move (v := .int _ _) rfl) rfl ?_
      refine p_val (e_move (v := .slice _ _ _) rfl) rfl ?_
      refine p_val (e_len rfl Try.underlying24) rfl ?_
      refine p_val (e_lss rfl rfl) rfl ?_
      refine p_nil (x_then ?_)
      refine s_cond rfl (fun hc16 => ?_) (fun hc16 => ?_)
      · obtain ⟨n, hn⟩ : ∃ n, n = t.getD g nd0 := ⟨_, rfl⟩
        have hat : t[(g : Int).toNat]? = some n := by rw [hn]; exact getD_at nd0 (by omega)
        have hno : ¬ ndOk g n → ¬ tRight t := fun h hr => h (by rw [hn]; exact hr.2.2 g (by omega))
        refine s_skip (x_then (s_seq ?_))
        refine s_cutK (ks := []) (ps := []) [(0, .slice _ _ _), (3, .int _ _)] ⟨rfl, rfl, trivial⟩ S (fun keep ks ps f' w' => ∃ u, f' = upds u (keep) ∧ (ndOk g n) ∧ St w0 w' [] [] []) ?_ ?_
        · refine s_block (s_seq (s_plain ?_))
          refine p_val (e_move (v := .slice _ _ _) rfl) rfl ?_
          refine p_val (e_move (v := .int _ _) rfl) rfl ?_
          refine p_val (e_ixR (S.rdOld R rfl) (by decide) rfl rfl Try.underlying24 sz40 (by omega)) rfl ?_
          refine p_val (e_loadRA rfl ag40 sz40 (by decide) ((Rd.elemA (S.rdOld R rfl) (fun _ _ => rfl) (hat)))) rfl ?_
          refine p_does (d_allocA S zs40) rfl ?_
          rintro _ w ⟨b4, rfl, S⟩
          refine p_does (d_storeW S 0 rfl rfl (by first | exact bv_one _ | exact sv_one _ | exact iv_one _ | with_reducible assumption | (refine One.mem ?_; repeat (first | exact One.bv _ | exact One.sv _ | exact One.iv _ | exact One.nil | exact One.cat0 | refine One.cat1 ?_ ?_ | refine One.cons rfl ?_ | exact ndv_one _ | exact  ndL_one _ | refine One.append ?_ ?_))) sz40 (by first | with_reducible assumption | (rw [bv_length]; with_reducible assumption) | (rw [List.size_toArray, bv_length]; with_reducible assumption) | (simp [cat]; done) | (simp [cat]; omega) | rfl) rfl rfl (by first | with_reducible assumption | (rw [bv_length]; with_reducible assumption) | (rw [List.size_toArray, bv_length]; with_reducible assumption) | (simp [cat]; done) | (simp [cat]; omega) | rfl)) rfl ?_
          intro _ w S
          refine p_nil (x_then (s_seq (s_plain ?_)))
          refine p_val (e_field rfl Try.underlying40 rfl sz3 (by decide)) rfl ?_
          refine p_val (e_loadF1 (i := 0) (off := 0) rfl ag3 S (j := 0) rfl rfl rfl (by first | with_reducible assumption | (rw [bv_length]; with_reducible assumption) | (rw [List.size_toArray, bv_length]; with_reducible assumption) | (simp [cat]; done) | (simp [cat]; omega) | rfl)) rfl ?_
          refine p_nil (x_then (s_block (s_seq (s_plain ?_))))
          refine p_val (e_eql rfl rfl) rfl ?_
          refine p_val (e_assign (v := .bool _) rfl) rfl ?_
          refine p_nil (x_then ?_)
          refine s_cond rfl (fun hc25 => ?_) (fun hc25 => ?_)
          · refine s_seq ?_
            refine s_cutK (ks := [some b4]) (ps := [Ex _ _]) [(0, .slice _ _ _), (3, .int _ _)] ⟨rfl, rfl, trivial⟩ S (fun keep ks ps f' w' => ∃ u bb, f' = upds u ((39, .bool bb) :: keep) ∧ (bb = true ↔ (((n.a < (0 : Int)) ∨ ((1048576 : Int) < n.a)) ∨ (¬ n.b = (0 : Int)))) ∧ St w0 w' [] ks ps) ?_ ?_
            · refine s_plain ?_
              refine p_val (e_field rfl Try.underlying40 rfl sz3 (by decide)) rfl ?_
              refine p_val (e_loadF1 (i := 1) (off := 1) rfl ag3 S (j := 0) rfl rfl rfl (by first | with_reducible assumption | (rw [bv_length]; with_reducible assumption) | (rw [List.size_toArray, bv_length]; with_reducible assumption) | (simp [cat]; done) | (simp [cat]; omega) | rfl)) rfl ?_
              refine p_valB (e_lss rfl rfl) rfl (fun hg29 => ?_) (fun hg29 => ?_)
              · refine p_val (e_move (v := .bool _) rfl) rfl ?_
                refine p_no rfl rfl rfl rfl rfl ?_
                refine p_no rfl rfl rfl rfl rfl ?_
                refine p_no rfl rfl rfl rfl rfl ?_
                refine p_val (e_pick_t rfl rfl) rfl ?_
                refine p_val (e_move (v := .bool _) rfl) rfl ?_
                refine p_no rfl rfl rfl rfl rfl ?_
                refine p_no rfl rfl rfl rfl rfl ?_
                refine p_no rfl rfl rfl rfl rfl ?_
                refine p_val (e_pick_t rfl rfl) rfl ?_
                exact p_nil (x_then ⟨_, rfl, _, _, upds_eq ⟨rfl, rfl, rfl, trivial⟩, by first | (simp only [decide_eq_true_eq, eq_self, true_iff, iff_true, iff_false, Bool.false_eq_true, false_iff, ge_iff_le, gt_iff_lt, true_and, and_true, false_and, and_false, true_or, or_true, false_or, or_false, not_true_eq_false, not_false_eq_true]; omega) | (simp; done) | omega | (simp_all; done), S⟩)
              · refine p_val (e_move (v := .bool _) rfl) rfl ?_
                refine pg_val rfl rfl rfl rfl rfl (e_field rfl Try.underlying40 rfl sz3 (by decide)) ?_
                refine pg_val rfl rfl rfl rfl rfl (e_loadF1 (i := 1) (off := 1) rfl ag3 S (j := 0) rfl rfl rfl (by first | with_reducible assumption | (rw [bv_length]; with_reducible assumption) | (rw [List.size_toArray, bv_length]; with_reducible assumption) | (simp [cat]; done) | (simp [cat]; omega) | rfl)) ?_
                refine pg_valB rfl rfl rfl rfl rfl (e_gtr rfl rfl) (fun hg33 => ?_) (fun hg33 => ?_)
                · refine p_val (e_pick_f rfl rfl) rfl ?_
                  refine p_val (e_move (v := .bool _) rfl) rfl ?_
                  refine p_no rfl rfl rfl rfl rfl ?_
                  refine p_no rfl rfl rfl rfl rfl ?_
                  refine p_no rfl rfl rfl rfl rfl ?_
                  refine p_val (e_pick_t rfl rfl) rfl ?_
                  exact p_nil (x_then ⟨_, rfl, _, _, upds_eq ⟨rfl, rfl, rfl, trivial⟩, by first | (simp only [decide_eq_true_eq, eq_self, true_iff, iff_true, iff_false, Bool.false_eq_true, false_iff, ge_iff_le, gt_iff_lt, true_and, and_true, false_and, and_false, true_or, or_true, false_or, or_false, not_true_eq_false, not_false_eq_true]; omega) | (simp; done) | omega | (simp_all; done), S⟩)
                · refine p_val (e_pick_f rfl rfl) rfl ?_
                  refine p_val (e_move (v := .bool _) rfl) rfl ?_
                  refine pg_val rfl rfl rfl rfl rfl (e_field rfl Try.underlying40 rfl sz3 (by decide)) ?_
                  refine pg_val rfl rfl rfl rfl rfl (e_loadF1 (i := 2) (off := 2) rfl ag3 S (j := 0) rfl rfl rfl (by first | with_reducible assumption | (rw [bv_length]; with_reducible assumption) | (rw [List.size_toArray, bv_length]; with_reducible assumption) | (simp [cat]; done) | (simp [cat]; omega) | rfl)) ?_
                  refine pg_val rfl rfl rfl rfl rfl (e_neq rfl rfl) ?_
                  refine p_val (e_pick_f rfl rfl) rfl ?_
                  exact p_nil (x_then ⟨_, rfl, _, _, upds_eq ⟨rfl, rfl, rfl, trivial⟩, by first | (simp only [decide_eq_true_eq, eq_self, true_iff, iff_true, iff_false, Bool.false_eq_true, false_iff, ge_iff_le, gt_iff_lt, true_and, and_true, false_and, and_false, true_or, or_true, false_or, or_false, not_true_eq_false, not_false_eq_true]; omega) | (simp; done) | omega | (simp_all; done), S⟩)
            · rintro f w ⟨u, b39, rfl, hb39, S⟩
              refine x_then ?_
              refine s_condb rfl (fun hc39 => ?_) (fun hc39 => ?_)
              · have hp39 : (((n.a < (0 : Int)) ∨ ((1048576 : Int) < n.a)) ∨ (¬ n.b = (0 : Int))) := hb39.1 hc39
                refine s_seq (s_plain ?_)
                refine p_val (e_assign (v := .bool _) rfl) rfl ?_
                refine p_nil (x_then (s_ret (x_in_ret (x_in_ret (x_then_ret (x_then_ret (x_then_ret (x_in_ret (x_then_ret ?_)))))))))
                exact post1 (v := .bool _) Try.results17 rfl (⟨by rw [decide_eq_false (hno (by unfold ndOk; omega))], S.to_below⟩)
              · have hp39 : ¬ (((n.a < (0 : Int)) ∨ ((1048576 : Int) < n.a)) ∨ (¬ n.b = (0 : Int))) := fun h => by rw [hb39.2 h] at hc39; cases hc39
                refine s_skip (x_in (x_in ?_))
                exact x_then ⟨_, rfl, _, upds_eq ⟨rfl, rfl, trivial⟩, by unfold ndOk; omega, S.pk [] rfl⟩
          · refine s_seq (s_plain ?_)
            refine p_val (e_eql rfl rfl) rfl ?_
            refine p_val (e_assign (v := .bool _) rfl) rfl ?_
            refine p_nil (x_then ?_)
            refine s_cond rfl (fun hc40 => ?_) (fun hc40 => ?_)
            · refine s_seq ?_
              refine s_cutK (ks := [some b4]) (ps := [Ex _ _]) [(0, .slice _ _ _), (3, .int _ _)] ⟨rfl, rfl, trivial⟩ S (fun keep ks ps f' w' => ∃ u bb, f' = upds u ((55, .bool bb) :: keep) ∧ (bb = true ↔ (((n.a < (0 : Int)) ∨ ((g : Int) ≤ n.a)) ∨ (¬ n.b = (0 : Int)))) ∧ St w0 w' [] ks ps) ?_ ?_
              · refine s_plain ?_
                refine p_val (e_field rfl Try.underlying40 rfl sz3 (by decide)) rfl ?_
                refine p_val (e_loadF1 (i := 1) (off := 1) rfl ag3 S (j := 0) rfl rfl rfl (by first | with_reducible assumption | (rw [bv_length]; with_reducible assumption) | (rw [List.size_toArray, bv_length]; with_reducible assumption) | (simp [cat]; done) | (simp [cat]; omega) | rfl)) rfl ?_
                refine p_valB (e_lss rfl rfl) rfl (fun hg44 => ?_) (fun hg44 => ?_)
                · refine p_val (e_move (v := .bool _) rfl) rfl ?_
                  refine p_no rfl rfl rfl rfl rfl ?_
                  refine p_no rfl rfl rfl rfl rfl ?_
                  refine p_no rfl rfl rfl rfl rfl ?_
                  refine p_no rfl rfl rfl rfl rfl ?_
                  refine p_val (e_pick_t rfl rfl) rfl ?_
                  refine p_val (e_move (v := .bool _) rfl) rfl ?_
                  refine p_no rfl rfl rfl rfl rfl ?_
                  refine p_no rfl rfl rfl rfl rfl ?_
                  refine p_no rfl rfl rfl rfl rfl ?_
                  refine p_val (e_pick_t rfl rfl) rfl ?_
                  exact p_nil (x_then ⟨_, rfl, _, _, upds_eq ⟨rfl, rfl, rfl, trivial⟩, by first | (simp only [decide_eq_true_eq, eq_self, true_iff, iff_true, iff_false, Bool.false_eq_true, false_iff, ge_iff_le, gt_iff_lt, true_and, and_true, false_and, and_false, true_or, or_true, false_or, or_false, not_true_eq_false, not_false_eq_true]; omega) | (simp; done) | omega | (simp_all; done), S⟩)
                · refine p_val (e_move (v := .bool _) rfl) rfl ?_
                  refine pg_val rfl rfl rfl rfl rfl (e_field rfl Try.underlying40 rfl sz3 (by decide)) ?_
                  refine pg_val rfl rfl rfl rfl rfl (e_loadF1 (i := 1) (off := 1) rfl ag3 S (j := 0) rfl rfl rfl (by first | with_reducible assumption | (rw [bv_length]; with_reducible assumption) | (rw [List.size_toArray, bv_length]; with_reducible assumption) | (simp [cat]; done) | (simp [cat]; omega) | rfl)) ?_
                  refine pg_val rfl rfl rfl rfl rfl (e_move (v := .int _ _) rfl) ?_
                  refine pg_valB rfl rfl rfl rfl rfl (e_geq rfl rfl) (fun hg49 => ?_) (fun hg49 => ?_)
                  · refine p_val (e_pick_f rfl rfl) rfl ?_
                    refine p_val (e_move (v := .bool _) rfl) rfl ?_
                    refine p_no rfl rfl rfl rfl rfl ?_
                    refine p_no rfl rfl rfl rfl rfl ?_
                    refine p_no rfl rfl rfl rfl rfl ?_
                    refine p_val (e_pick_t rfl rfl) rfl ?_
                    exact p_nil (x_then ⟨_, rfl, _, _, upds_eq ⟨rfl, rfl, rfl, trivial⟩, by first | (simp only [decide_eq_true_eq, eq_self, true_iff, iff_true, iff_false, Bool.false_eq_true, false_iff, ge_iff_le, gt_iff_lt, true_and, and_true, false_and, and_false, true_or, or_true, false_or, or_false, not_true_eq_false, not_false_eq_true]; omega) | (simp; done) | omega | (simp_all; done), S⟩)
                  · refine p_val (e_pick_f rfl rfl) rfl ?_
                    refine p_val (e_move (v := .bool _) rfl) rfl ?_
                    refine pg_val rfl rfl rfl rfl rfl (e_field rfl Try.underlying40 rfl sz3 (by decide)) ?_
                    refine pg_val rfl rfl rfl rfl rfl (e_loadF1 (i := 2) (off := 2) rfl ag3 S (j := 0) rfl rfl rfl (by first | with_reducible assumption | (rw [bv_length]; with_reducible assumption) | (rw [List.size_toArray, bv_length]; with_reducible assumption) | (simp [cat]; done) | (simp [cat]; omega) | rfl)) ?_
                    refine pg_val rfl rfl rfl rfl rfl (e_neq rfl rfl) ?_
                    refine p_val (e_pick_f rfl rfl) rfl ?_
                    exact p_nil (x_then ⟨_, rfl, _, _, upds_eq ⟨rfl, rfl, rfl, trivial⟩, by first | (simp only [decide_eq_true_eq, eq_self, true_iff, iff_true, iff_false, Bool.false_eq_true, false_iff, ge_iff_le, gt_iff_lt, true_and, and_true, false_and, and_false, true_or, or_true, false_or, or_false, not_true_eq_false, not_false_eq_true]; omega) | (simp; done) | omega | (simp_all; done), S⟩)
              · rintro f w ⟨u, b55, rfl, hb55, S⟩
                refine x_then ?_
                refine s_condb rfl (fun hc55 => ?_) (fun hc55 => ?_)
                · have hp55 : (((n.a < (0 : Int)) ∨ ((g : Int) ≤ n.a)) ∨ (¬ n.b = (0 : Int))) := hb55.1 hc55
                  refine s_seq (s_plain ?_)
                  refine p_val (e_assign (v := .bool _) rfl) rfl ?_
                  refine p_nil (x_then (s_ret (x_in_ret (x_in_ret (x_then_ret (x_then_ret (x_then_ret (x_in_ret (x_then_ret ?_)))))))))
                  exact post1 (v := .bool _) Try.results17 rfl (⟨by rw [decide_eq_false (hno (by unfold ndOk; omega))], S.to_below⟩)
                · have hp55 : ¬ (((n.a < (0 : Int)) ∨ ((g : Int) ≤ n.a)) ∨ (¬ n.b = (0 : Int))) := fun h => by rw [hb55.2 h] at hc55; cases hc55
                  refine s_skip (x_in (x_in ?_))
                  exact x_then ⟨_, rfl, _, upds_eq ⟨rfl, rfl, trivial⟩, by unfold ndOk; omega, S.pk [] rfl⟩
            · refine s_seq ?_
              refine s_cutK (ks := [some b4]) (ps := [Ex _ _]) [(0, .slice _ _ _), (3, .int _ _), (4, .pointer _)] ⟨rfl, rfl, rfl, trivial⟩ S (fun keep ks ps f' w' => ∃ u bb, f' = upds u ((56, .bool bb) :: keep) ∧ (bb = true ↔ (n.k = 2 ∨ n.k = 4 ∨ n.k = 5)) ∧ St w0 w' [] [some b4] [(ps.getD 0 fun _ => True)]) ?_ ?_
              · refine s_seq (s_plain ?_)
                refine p_val (e_eql rfl rfl) rfl ?_
                refine p_val (e_assign (v := .bool _) rfl) rfl ?_
                refine p_nil (x_then ?_)
                refine s_cond rfl (fun hc56 => ?_) (fun hc56 => ?_)
                · refine s_skip ?_
                  exact x_then ⟨_, rfl, _, _, upds_eq ⟨rfl, rfl, rfl, rfl, trivial⟩, by rw [decide_eq_true_eq]; omega, S⟩
                · refine s_seq (s_plain ?_)
                  refine p_val (e_eql rfl rfl) rfl ?_
                  refine p_val (e_assign (v := .bool _) rfl) rfl ?_
                  refine p_nil (x_then ?_)
                  refine s_cond rfl (fun hc56 => ?_) (fun hc56 => ?_)
                  · refine s_skip ?_
                    exact x_then ⟨_, rfl, _, _, upds_eq ⟨rfl, rfl, rfl, rfl, trivial⟩, by rw [decide_eq_true_eq]; omega, S⟩
                  · refine s_plain ?_
                    refine p_val (e_eql rfl rfl) rfl ?_
                    refine p_val (e_assign (v := .bool _) rfl) rfl ?_
                    refine p_nil ?_
                    exact x_then ⟨_, rfl, _, _, upds_eq ⟨rfl, rfl, rfl, rfl, trivial⟩, by rw [decide_eq_true_eq]; omega, S⟩
              · rintro f w ⟨u, bb, rfl, hbb, S⟩
                refine x_then ?_
                refine s_condb rfl (fun hc56 => ?_) (fun hc56 => ?_)
                · refine s_seq ?_
                  refine s_cutK (ks := [some b4]) (ps := [Ex _ _]) [(0, .slice _ _ _), (3, .int _ _)] ⟨rfl, rfl, trivial⟩ S (fun keep ks ps f' w' => ∃ u bb, f' = upds u ((79, .bool bb) :: keep) ∧ (bb = true ↔ ((((n.a < (0 : Int)) ∨ ((g : Int) ≤ n.a)) ∨ (n.b < (0 : Int))) ∨ ((g : Int) ≤ n.b))) ∧ St w0 w' [] ks ps) ?_ ?_
                  · refine s_plain ?_
                    refine p_val (e_field rfl Try.underlying40 rfl sz3 (by decide)) rfl ?_
                    refine p_val (e_loadF1 (i := 1) (off := 1) rfl ag3 S (j := 0) rfl rfl rfl (by first | with_reducible assumption | (rw [bv_length]; with_reducible assumption) | (rw [List.size_toArray, bv_length]; with_reducible assumption) | (simp [cat]; done) | (simp [cat]; omega) | rfl)) rfl ?_
                    refine p_valB (e_lss rfl rfl) rfl (fun hg62 => ?_) (fun hg62 => ?_)
                    · refine p_val (e_move (v := .bool _) rfl) rfl ?_
                      refine p_no rfl rfl rfl rfl rfl ?_
                      refine p_no rfl rfl rfl rfl rfl ?_
                      refine p_no rfl rfl rfl rfl rfl ?_
                      refine p_no rfl rfl rfl rfl rfl ?_
                      refine p_val (e_pick_t rfl rfl) rfl ?_
                      refine p_val (e_move (v := .bool _) rfl) rfl ?_
                      refine p_no rfl rfl rfl rfl rfl ?_
                      refine p_no rfl rfl rfl rfl rfl ?_
                      refine p_no rfl rfl rfl rfl rfl ?_
                      refine p_val (e_pick_t rfl rfl) rfl ?_
                      refine p_val (e_move (v := .bool _) rfl) rfl ?_
                      refine p_no rfl rfl rfl rfl rfl ?_
                      refine p_no rfl rfl rfl rfl rfl ?_
                      refine p_no rfl rfl rfl rfl rfl ?_
                      refine p_no rfl rfl rfl rfl rfl ?_
                      refine p_val (e_pick_t rfl rfl) rfl ?_
                      exact p_nil (x_then ⟨_, rfl, _, _, upds_eq ⟨rfl, rfl, rfl, trivial⟩, by first | (simp only [decide_eq_true_eq, eq_self, true_iff, iff_true, iff_false, Bool.false_eq_true, false_iff, ge_iff_le, gt_iff_lt, true_and, and_true, false_and, and_false, true_or, or_true, false_or, or_false, not_true_eq_false, not_false_eq_true]; omega) | (simp; done) | omega | (simp_all; done), S⟩)
                    · refine p_val (e_move (v := .bool _) rfl) rfl ?_
                      refine pg_val rfl rfl rfl rfl rfl (e_field rfl Try.underlying40 rfl sz3 (by decide)) ?_
                      refine pg_val rfl rfl rfl rfl rfl (e_loadF1 (i := 1) (off := 1) rfl ag3 S (j := 0) rfl rfl rfl (by first | with_reducible assumption | (rw [bv_length]; with_reducible assumption) | (rw [List.size_toArray, bv_length]; with_reducible assumption) | (simp [cat]; done) | (simp [cat]; omega) | rfl)) ?_
                      refine pg_val rfl rfl rfl rfl rfl (e_move (v := .int _ _) rfl) ?_
                      refine pg_valB rfl rfl rfl rfl rfl (e_geq rfl rfl) (fun hg67 => ?_) (fun hg67 => ?_)
                      · refine p_val (e_pick_f rfl rfl) rfl ?_
                        refine p_val (e_move (v := .bool _) rfl) rfl ?_
                        refine p_no rfl rfl rfl rfl rfl ?_
                        refine p_no rfl rfl rfl rfl rfl ?_
                        refine p_no rfl rfl rfl rfl rfl ?_
                        refine p_val (e_pick_t rfl rfl) rfl ?_
                        refine p_val (e_move (v := .bool _) rfl) rfl ?_
                        refine p_no rfl rfl rfl rfl rfl ?_
                        refine p_no rfl rfl rfl rfl rfl ?_
                        refine p_no rfl rfl rfl rfl rfl ?_
                        refine p_no rfl rfl rfl rfl rfl ?_
                        refine p_val (e_pick_t rfl rfl) rfl ?_
                        exact p_nil (x_then ⟨_, rfl, _, _, upds_eq ⟨rfl, rfl, rfl, trivial⟩, by first | (simp only [decide_eq_true_eq, eq_self, true_iff, iff_true, iff_false, Bool.false_eq_true, false_iff, ge_iff_le, gt_iff_lt, true_and, and_true, false_and, and_false, true_or, or_true, false_or, or_false, not_true_eq_false, not_false_eq_true]; omega) | (simp; done) | omega | (simp_all; done), S⟩)
                      · refine p_val (e_pick_f rfl rfl) rfl ?_
                        refine p_val (e_move (v := .bool _) rfl) rfl ?_
                        refine pg_val rfl rfl rfl rfl rfl (e_field rfl Try.underlying40 rfl sz3 (by decide)) ?_
                        refine pg_val rfl rfl rfl rfl rfl (e_loadF1 (i := 2) (off := 2) rfl ag3 S (j := 0) rfl rfl rfl (by first | with_reducible assumption | (rw [bv_length]; with_reducible assumption) | (rw [List.size_toArray, bv_length]; with_reducible assumption) | (simp [cat]; done) | (simp [cat]; omega) | rfl)) ?_
                        refine pg_valB rfl rfl rfl rfl rfl (e_lss rfl rfl) (fun hg72 => ?_) (fun hg72 => ?_)
                        · refine p_val (e_pick_f rfl rfl) rfl ?_
                          refine p_val (e_move (v := .bool _) rfl) rfl ?_
                          refine p_no rfl rfl rfl rfl rfl ?_
                          refine p_no rfl rfl rfl rfl rfl ?_
                          refine p_no rfl rfl rfl rfl rfl ?_
                          refine p_no rfl rfl rfl rfl rfl ?_
                          refine p_val (e_pick_t rfl rfl) rfl ?_
                          exact p_nil (x_then ⟨_, rfl, _, _, upds_eq ⟨rfl, rfl, rfl, trivial⟩, by first | (simp only [decide_eq_true_eq, eq_self, true_iff, iff_true, iff_false, Bool.false_eq_true, false_iff, ge_iff_le, gt_iff_lt, true_and, and_true, false_and, and_false, true_or, or_true, false_or, or_false, not_true_eq_false, not_false_eq_true]; omega) | (simp; done) | omega | (simp_all; done), S⟩)
                        · refine p_val (e_pick_f rfl rfl) rfl ?_
                          refine p_val (e_move (v := .bool _) rfl) rfl ?_
                          refine pg_val rfl rfl rfl rfl rfl (e_field rfl Try.underlying40 rfl sz3 (by decide)) ?_
                          refine pg_val rfl rfl rfl rfl rfl (e_loadF1 (i := 2) (off := 2) rfl ag3 S (j := 0) rfl rfl rfl (by first | with_reducible assumption | (rw [bv_length]; with_reducible assumption) | (rw [List.size_toArray, bv_length]; with_reducible assumption) | (simp [cat]; done) | (simp [cat]; omega) | rfl)) ?_
                          refine pg_val rfl rfl rfl rfl rfl (e_move (v := .int _ _) rfl) ?_
                          refine pg_val rfl rfl rfl rfl rfl (e_geq rfl rfl) ?_
                          refine p_val (e_pick_f rfl rfl) rfl ?_
                          exact p_nil (x_then ⟨_, rfl, _, _, upds_eq ⟨rfl, rfl, rfl, trivial⟩, by first | (simp only [decide_eq_true_eq, eq_self, true_iff, iff_true, iff_false, Bool.false_eq_true, false_iff, ge_iff_le, gt_iff_lt, true_and, and_true, false_and, and_false, true_or, or_true, false_or, or_false, not_true_eq_false, not_false_eq_true]; omega) | (simp; done) | omega | (simp_all; done), S⟩)
                  · rintro f w ⟨u, b79, rfl, hb79, S⟩
                    refine x_then ?_
                    refine s_condb rfl (fun hc79 => ?_) (fun hc79 => ?_)
                    · have hp79 : ((((n.a < (0 : Int)) ∨ ((g : Int) ≤ n.a)) ∨ (n.b < (0 : Int))) ∨ ((g : Int) ≤ n.b)) := hb79.1 hc79
                      refine s_seq (s_plain ?_)
                      refine p_val (e_assign (v := .bool _) rfl) rfl ?_
                      refine p_nil (x_then (s_ret (x_in_ret (x_in_ret (x_then_ret (x_then_ret (x_then_ret (x_in_ret (x_then_ret ?_)))))))))
                      exact post1 (v := .bool _) Try.results17 rfl (⟨by rw [decide_eq_false (hno (by unfold ndOk; omega))], S.to_below⟩)
                    · have hp79 : ¬ ((((n.a < (0 : Int)) ∨ ((g : Int) ≤ n.a)) ∨ (n.b < (0 : Int))) ∨ ((g : Int) ≤ n.b)) := fun h => by rw [hb79.2 h] at hc79; cases hc79
                      refine s_skip (x_in (x_in ?_))
                      exact x_then ⟨_, rfl, _, upds_eq ⟨rfl, rfl, trivial⟩, by have := hbb.1 hc56; unfold ndOk; omega, S.pk [] rfl⟩
                · refine s_seq (s_plain ?_)
                  refine p_val (e_assign (v := .bool _) rfl) rfl ?_
                  refine p_nil (x_then (s_ret (x_in_ret (x_in_ret (x_then_ret (x_then_ret (x_then_ret (x_in_ret (x_then_ret ?_)))))))))
                  exact post1 (v := .bool _) Try.results17 rfl (⟨by rw [decide_eq_false (hno (by have : ¬ (n.k = 2 ∨ n.k = 4 ∨ n.k = 5) := fun h => by { rw [hbb.2 h] at hc56; cases hc56 }; unfold ndOk; omega))], S.to_below⟩)
        · rintro f w ⟨u, rfl, hok1, S⟩
          refine x_then (s_plain ?_)
          refine p_val (e_move (v := .int _ _) rfl) rfl ?_
          refine p_val (e_add64 rfl rfl (by omega)) rfl ?_
          refine p_val (e_assign (v := .int _ _) rfl) rfl ?_
          refine p_nil ?_
          refine x_round (g + 1) _ rfl ⟨_, upds_eq ⟨rfl, rfl, trivial⟩, by first | omega | rfl | with_reducible assumption | (simp; done) | (simp; omega), fun i hi => by { by_cases h : i < g; exact hok i h; (obtain rfl : i = g := by omega); rw [← hn]; exact hok1 }, S⟩ (by omega)
      · refine s_exit (x_then_exit (x_then_exit (x_in_same (x_then (s_seq (s_plain ?_))))))
        refine p_val (e_assign (v := .bool _) rfl) rfl ?_
        refine p_nil (x_then (s_ret ?_))
        exact post1 (v := .bool _) Try.results17 rfl (⟨by rw [decide_eq_true (p := tRight t) ⟨by omega, by omega, fun i hi => hok i (by omega)⟩], S.to_below⟩)
end Go.Proofs.Ytcgcjklpilbndaa

/- A bank of terms: a node's number, a term's number, walked. It proves no statement by itself. -/
set_option linter.unusedSimpArgs false
set_option linter.unusedVariables false
set_option maxRecDepth 100000
set_option maxHeartbeats 1000000
namespace Go.Proofs.Ytcgcjklpilbndaa
open Go Go.RowKit E
attribute [local irreducible] wpList seqH treeH
abbrev bankE (T : TypeId) (rest : List (List Value)) (kn mk : Option Nat) (n c : Nat) : Option Obj → Prop := Ex (cat ([.slice (at_ kn) n c] :: [.map mk] :: rest)).toArray T
/-- the numbers of a term's nodes, as far as they are known -/
def idz (ids : List Nat) (n : Nat) : List Int := ids.map (fun (x : Nat) => (x : Int)) ++ List.replicate (n - ids.length) 0
theorem idz_nil (n : Nat) : iv (idz [] n) = List.replicate n (.int .i64 0) := by simp [idz, iv]
theorem idz_get {ids : List Nat} {n j : Nat} (h : j < ids.length) : (idz ids n).getD j 0 = ((ids.getD j 0 : Nat) : Int) := by
  unfold idz
  rw [List.getD_eq_getElem?_getD, List.getElem?_append_left (by simpa using h), List.getElem?_map, List.getElem?_eq_getElem h, List.getD_eq_getElem?_getD, List.getElem?_eq_getElem h]
  rfl
theorem idz_set {ids : List Nat} {n x : Nat} (h : ids.length < n) : (idz ids n).set ids.length (x : Int) = idz (ids ++ [x]) n := by
  unfold idz
  rw [List.set_append_right _ _ (by simp), show n - ids.length = (n - (ids ++ [x]).length) + 1 by simp; omega, List.replicate_succ]
  simp
theorem bk_one (w0 : World) (hb mb : Nat) (kn : Option Nat) (c : Nat) (T : TypeId) (rest : List (List Value)) (B : List Nd) (n : Nd) (S0 : St w0 w0 (exOf [some hb, kn, some mb]) [some hb, kn, some mb] [bankE T rest kn (some mb) B.length c, nodeR B.length c B, Mp ndV B]) (hl : B.length ≤ 1000000) :
    Ret Try.prog 61 [.pointer (some ⟨hb, 0, none⟩), .agg (ndL n).toArray] w0 fun v w' => ∃ kn' c', v = .int .i64 (((bPut B n).idxOf n : Nat) : Int) ∧ St w0 w' (exOf [some hb, kn, some mb]) [some hb, kn', some mb] [bankE T rest kn' (some mb) (bPut B n).length c', nodeR (bPut B n).length c' (bPut B n), Mp ndV (bPut B n)] := by
  refine enter Try.func61 rfl Try.ntmps61 (Nat.le_of_ble_eq_true rfl) ?_
  have S := S0
  refine s_seq (s_plain ?_)
  refine p_does (d_boxA S rfl) rfl ?_
  rintro _ w ⟨b3, rfl, S⟩
  refine p_val (e_assign (v := .int _ _) rfl) rfl ?_
  refine p_nil (x_then (s_seq ?_))
  refine s_drawK (ks := [some b3, some hb, kn, some mb]) (ps := [Ex _ _, Ex _ _, Rw _ _ _ _ _, Mp _ _]) S [(true, 0), (true, 1), (true, 2), (true, 3), (true, 4), (true, 5), (true, 6), (true, 7), (true, 8), (true, 9)] [10] [10] mixed (by kernel_rfl) (by repeat (first | exact Calm.post _ _ _ | refine Calm.then ?_ _ | refine Calm.inB ?_ _)) (fun hS => ?_)
  have S := S.drew
  refine q_val (fun w hS => e_move (v := .pointer _) rfl) rfl hS ?_
  refine q_val (fun w hS => e_nil rfl rfl) rfl hS ?_
  refine q_val (fun w hS => e_field rfl Try.underlying30 rfl sz28 (by decide)) rfl hS ?_
  refine q_val (fun w hS => e_loadF1 (i := 1) (off := 1) rfl ag28 hS (j := 1) rfl rfl rfl (by first | with_reducible assumption | (rw [bv_length]; with_reducible assumption) | (rw [List.size_toArray, bv_length]; with_reducible assumption) | (simp [cat]; done) | (simp [cat]; omega) | rfl)) rfl hS ?_
  refine q_val (fun w hS => e_loadW 0 rfl ag40 sz40 hS rfl rfl (by first | with_reducible assumption | (rw [bv_length]; with_reducible assumption) | (rw [List.size_toArray, bv_length]; with_reducible assumption) | (simp [cat]; done) | (simp [cat]; omega) | rfl)) rfl hS ?_
  refine q_val (fun w hS => e_lookupM (c := ndV) (k := n) rfl rfl Try.underlying28 ndKey zv3 hS (j := 3) rfl rfl) rfl hS ?_
  refine q_val (fun w hS => e_move (v := .tuple _) rfl) rfl hS ?_
  refine q_val (fun w hS => e_extract rfl rfl) rfl hS ?_
  refine q_val (fun w hS => e_extract rfl rfl) rfl hS ?_
  refine q_val (fun w hS => e_assign (v := .int _ _) rfl) rfl hS ?_
  refine q_nil ?_
  refine p_val (e_assign (v := .bool _) rfl) rfl ?_
  refine p_nil (x_then (s_seq ?_))
  refine s_cutK (ks := [some b3, some hb, kn, some mb]) (ps := [Ex _ _, Ex _ _, Rw _ _ _ _ _, Mp _ _]) [] trivial S (fun keep ks ps f' w' => ∃ u Kkn Ckn m xs B1 i5, f' = upds u ((5, .int .i64 i5) :: keep) ∧ (m = B1.length) ∧ (xs = ndv B1) ∧ (B1 = bPut B n) ∧ (i5 = (((bPut B n).idxOf n : Nat) : Int)) ∧ St w0 w' (exOf [some hb, kn, some mb]) [some b3, some hb, Kkn, some mb] [(ps.getD 0 fun _ => True), bankE T rest Kkn (some mb) m Ckn, Rw 40 3 (m) Ckn (xs), Mp ndV B1]) ?_ ?_
  · refine s_seq (s_plain ?_)
    refine p_val (e_move (v := .bool _) rfl) rfl ?_
    refine p_val (e_not rfl) rfl ?_
    refine p_nil (x_then ?_)
    refine s_condb rfl (fun hc17 => ?_) (fun hc17 => ?_)
    · have hm : ¬ n ∈ B := by simpa using hc17
      have hbp : bPut B n = B ++ [n] := if_neg hm
      refine s_seq (s_plain ?_)
      refine p_val (e_move (v := .pointer _) rfl) rfl ?_
      refine p_val (e_nil rfl rfl) rfl ?_
      refine p_val (e_field rfl Try.underlying30 rfl sz23 (by decide)) rfl ?_
      refine p_val (e_loadF1 (i := 0) (off := 0) rfl ag23 S (j := 1) rfl rfl rfl (by first | with_reducible assumption | (rw [bv_length]; with_reducible assumption) | (rw [List.size_toArray, bv_length]; with_reducible assumption) | (simp [cat]; done) | (simp [cat]; omega) | rfl)) rfl ?_
      refine p_val (e_len rfl Try.underlying23) rfl ?_
      refine p_val (e_assign (v := .int _ _) rfl) rfl ?_
      refine p_nil (x_then (s_seq ?_))
      refine s_drawK (ks := [some b3, some hb, some mb]) (ps := [Ex _ _, Ex _ _, Mp _ _]) (S.pk [0, 1, 3] rfl) [(true, 0), (true, 1), (true, 2), (true, 3), (true, 4), (true, 5), (false, 6), (false, 7), (true, 8)] [9] [9, 10] mixed (by kernel_rfl) (by repeat (first | exact Calm.post _ _ _ | refine Calm.then ?_ _ | refine Calm.inB ?_ _)) (fun hS => ?_)
      have S := S.drew
      refine q_val (fun w hS => e_move (v := .pointer _) rfl) rfl hS ?_
      refine q_val (fun w hS => e_move (v := .pointer _) rfl) rfl hS ?_
      refine q_val (fun w hS => e_nil rfl rfl) rfl hS ?_
      refine q_val (fun w hS => e_field rfl Try.underlying30 rfl sz23 (by decide)) rfl hS ?_
      refine q_val (fun w hS => e_loadF1 (i := 0) (off := 0) rfl ag23 hS (j := 1) rfl rfl rfl (by first | with_reducible assumption | (rw [bv_length]; with_reducible assumption) | (rw [List.size_toArray, bv_length]; with_reducible assumption) | (simp [cat]; done) | (simp [cat]; omega) | rfl)) rfl hS ?_
      refine q_val (fun w hS => e_loadW 0 rfl ag40 sz40 hS rfl rfl (by first | with_reducible assumption | (rw [bv_length]; with_reducible assumption) | (rw [List.size_toArray, bv_length]; with_reducible assumption) | (simp [cat]; done) | (simp [cat]; omega) | rfl)) rfl hS ?_
      refine q_does (d_litV S Try.underlying23 sz40 zv40 rfl (by decide) (E := [_]) rfl rfl (by intro l hl; simp at hl; rw [hl]; first | rfl | (simp [cat, ]; done)) (by decide)) rfl ?_
      rintro _ w ⟨b29, rfl, S⟩
      have hS := S.pk [1, 2, 4] rfl
      refine ⟨hS, ?_⟩
      refine q_does (d_append S 3 rfl rfl Try.underlying23 el40 rfl rfl (S.rdRw 0 rfl rfl) (by first | exact bv_one _ | exact sv_one _ | exact iv_one _ | with_reducible assumption | (refine One.mem ?_; repeat (first | exact One.bv _ | exact One.sv _ | exact One.iv _ | exact One.nil | exact One.cat0 | refine One.cat1 ?_ ?_ | refine One.cons rfl ?_ | exact ndv_one _ | exact  ndL_one _ | refine One.append ?_ ?_))) (by first | omega | (simp only [List.length_append, List.length_cons, List.length_nil, bv_length]; omega) | (simp [cat]; omega)) (by unfold maxLen; first | omega | (simp only [List.length_append, List.length_cons, List.length_nil, bv_length]; omega))) rfl ?_
      rintro _ w ⟨k30, c30, rfl, S⟩
      have hS := S.pk [1, 2, 4] rfl
      refine ⟨hS, ?_⟩
      refine q_val (fun w hS => e_nil rfl rfl) rfl hS ?_
      refine q_nil ?_
      refine p_val (e_field rfl Try.underlying30 rfl sz23 (by decide)) rfl ?_
      refine p_does (d_storeF1 (v := .slice _ _ _) (off := 0) S 2 0 rfl rfl rfl sz23 rfl rfl rfl (by first | with_reducible assumption | (rw [bv_length]; with_reducible assumption) | (rw [List.size_toArray, bv_length]; with_reducible assumption) | (simp [cat]; done) | (simp [cat]; omega) | rfl)) rfl ?_
      intro _ w S
      refine p_nil (x_then ?_)
      refine s_drawK (ks := [some b29, some b3, some hb, k30]) (ps := [Rw _ _ _ _ _, Ex _ _, Ex _ _, Rw _ _ _ _ _]) (S.pk [0, 1, 2, 3] rfl) [(true, 0), (true, 1), (true, 2), (true, 3), (true, 4), (true, 5), (false, 6)] [] [] mixed (by kernel_rfl) (by repeat (first | exact Calm.post _ _ _ | refine Calm.then ?_ _ | refine Calm.inB ?_ _)) (fun hS => ?_)
      have S := S.drew
      refine q_val (fun w hS => e_move (v := .pointer _) rfl) rfl hS ?_
      refine q_val (fun w hS => e_nil rfl rfl) rfl hS ?_
      refine q_val (fun w hS => e_field rfl Try.underlying30 rfl sz28 (by decide)) rfl hS ?_
      refine q_val (fun w hS => e_loadF1 (i := 1) (off := 1) rfl ag28 hS (j := 2) rfl rfl rfl (by first | with_reducible assumption | (rw [bv_length]; with_reducible assumption) | (rw [List.size_toArray, bv_length]; with_reducible assumption) | (simp [cat]; done) | (simp [cat]; omega) | rfl)) rfl hS ?_
      refine q_val (fun w hS => e_loadW 1 rfl ag40 sz40 hS rfl rfl (by first | with_reducible assumption | (rw [bv_length]; with_reducible assumption) | (rw [List.size_toArray, bv_length]; with_reducible assumption) | (simp [cat]; done) | (simp [cat]; omega) | rfl)) rfl hS ?_
      refine q_val (fun w hS => e_move (v := .int _ _) rfl) rfl hS ?_
      refine q_does (d_mapPut (j := 4) (c := ndV) (k := n) S rfl rfl rfl rfl (by rfl) Try.underlying28 ndKey (hm)) rfl ?_
      intro _ w S
      have hS := S.pk [0, 1, 2, 3] rfl
      refine ⟨hS, ?_⟩
      refine q_nil (p_nil ?_)
      exact x_then ⟨_, rfl, _, _,  _,  _,  _,  (B ++ [n]),  _, upds_eq ⟨rfl, trivial⟩, by simp, (ndv_append B [n]).symm, hbp.symm, by rw [hbp, List.idxOf_append, if_neg hm]; simp, S.pk [1, 2, 3, 4] rfl⟩
    · have hm : n ∈ B := by simpa using hc17
      have hbp : bPut B n = B := if_pos hm
      refine s_skip ?_
      exact x_then ⟨_, rfl, _, _,  _,  _,  _,  B,  _, upds_eq ⟨rfl, trivial⟩, rfl, rfl, hbp.symm, by rw [hbp]; rw [if_pos hm], S⟩
  · rintro f w ⟨u, Kkn, Ckn, m, xs, B1, i5, rfl, hm, hx, hB, h5, S⟩
    refine x_then (s_seq (s_plain ?_))
    refine p_val (e_move (v := .int _ _) rfl) rfl ?_
    refine p_val (e_assign (v := .int _ _) rfl) rfl ?_
    refine p_nil (x_then (s_ret ?_))
    exact post1 (v := .int _ _) Try.results61 rfl (by subst hB h5 hm hx; exact ⟨_, _, rfl, S.pk [1, 2, 3] rfl⟩)

theorem bk_into (w0 : World) (hb : Nat) (kn mk : Option Nat) (c : Nat) (T : TypeId) (rest : List (List Value)) (B : List Nd) (A : Option Addr) (c0 : Nat) (t : List Nd) (S0 : St w0 w0 (exOf [some hb, kn, mk]) [some hb, kn, mk] [bankE T rest kn mk B.length c, nodeR B.length c B, Mp ndV B]) (hl : B.length ≤ 100000) (R : Rd w0 3 A t.length (ndv t)) (oR : Off A t.length (exOf [some hb, kn, mk])) (ht : tRight t) :
    Ret Try.prog 29 [.pointer (some ⟨hb, 0, none⟩), .slice A t.length c0] w0 fun v w' => ∃ kn' c' mk', v = .tuple #[.int .i64 ((tid B t : Nat) : Int), .int .i64 0] ∧ St w0 w' (exOf [some hb, kn, mk]) [some hb, kn', mk'] [bankE T rest kn' mk' (bank B t).length c', nodeR (bank B t).length c' (bank B t), Mp ndV (bank B t)] := by
  refine enter Try.func29 rfl Try.ntmps29 (Nat.le_of_ble_eq_true rfl) ?_
  have S := S0
  have ht1 := ht.1
  have ht2 := ht.2.1
  refine s_seq (s_plain ?_)
  refine p_val (e_assign (v := .int _ _) rfl) rfl ?_
  refine p_val (e_assign (v := .int _ _) rfl) rfl ?_
  refine p_nil (x_then (s_seq (s_seq ?_)))
  refine s_cutK (ks := [some hb, kn, mk]) (ps := [Ex _ _, Rw _ _ _ _ _, Mp _ _]) [(0, .pointer _), (1, .slice _ _ _)] ⟨rfl, rfl, trivial⟩ S (fun keep ks ps f' w' => ∃ u bb, f' = upds u ((15, .bool bb) :: keep) ∧ (bb = true ↔ False) ∧ St w0 w' (exOf [some hb, kn, mk]) ks ps) ?_ ?_
  · refine s_plain ?_
    refine p_val (e_move (v := .pointer _) rfl) rfl ?_
    refine p_valb (e_eqlP rfl rfl Try.underlying63) rfl (fun hg10 => ?_) (fun hg10 => ?_)
    · exact False.elim (by simp at hg10)
    · refine p_val (e_move (v := .bool _) rfl) rfl ?_
      refine pg_val rfl rfl rfl rfl rfl (e_move (v := .slice _ _ _) rfl) ?_
      refine pg_does rfl rfl rfl rfl rfl (d_call Try.func60 nm60 rfl rfl (tm_right _ _ _ _ (S.rdOff R oR))) ?_
      rintro _ w ⟨rfl, hB⟩
      have S := S.below hB
      rcases Classical.em (tRight t) with hg13 | hg13
      · rw [decide_eq_true hg13]
        refine pg_val rfl rfl rfl rfl rfl (e_not rfl) ?_
        refine p_val (e_pick_f rfl rfl) rfl ?_
        exact p_nil (x_then ⟨_, rfl, _, _, upds_eq ⟨rfl, rfl, rfl, trivial⟩, by first | (simp only [decide_eq_true_eq, eq_self, true_iff, iff_true, iff_false, Bool.false_eq_true, false_iff, ge_iff_le, gt_iff_lt, true_and, and_true, false_and, and_false, true_or, or_true, false_or, or_false, not_true_eq_false, not_false_eq_true]; omega) | (simp; done) | omega | (simp_all; done), S⟩)
      · exact False.elim (hg13 ht)
  · rintro f w ⟨u, b15, rfl, hb15, S⟩
    refine x_then ?_
    refine s_condb rfl (fun hc15 => ?_) (fun hc15 => ?_)
    · exact False.elim ((fun (hp15 : False) => hp15) (hb15.1 hc15))
    · have hp15 : ¬ False := fun h => by rw [hb15.2 h] at hc15; cases hc15
      refine s_skip (x_then (s_seq ?_))
      refine s_cutK (ks := [some hb, kn, mk]) (ps := [Ex _ _, Rw _ _ _ _ _, Mp _ _]) [(0, .pointer _), (1, .slice _ _ _)] ⟨rfl, rfl, trivial⟩ S (fun keep ks ps f' w' => ∃ u mb, f' = upds u (keep) ∧ St w0 w' (exOf [some hb, kn, mk]) [some hb, kn, some mb] [bankE T rest kn (some mb) B.length c, (ps.getD 1 fun _ => True), Mp ndV B]) ?_ ?_
      · refine s_seq (s_plain ?_)
        refine p_val (e_move (v := .pointer _) rfl) rfl ?_
        refine p_val (e_nil rfl rfl) rfl ?_
        refine p_val (e_field rfl Try.underlying30 rfl sz28 (by decide)) rfl ?_
        refine p_val (e_loadF1 (i := 1) (off := 1) rfl ag28 S (j := 0) rfl rfl rfl (by first | with_reducible assumption | (rw [bv_length]; with_reducible assumption) | (rw [List.size_toArray, bv_length]; with_reducible assumption) | (simp [cat]; done) | (simp [cat]; omega) | rfl)) rfl ?_
        refine p_val (e_eqlM rfl rfl Try.underlying28) rfl ?_
        refine p_nil (x_then ?_)
        refine s_condb rfl (fun hc20 => ?_) (fun hc20 => ?_)
        · have hB0 : B = [] := by { rcases S.mpCases (c := ndV) (j := 2) rfl rfl with ⟨_, h⟩ | ⟨b, _, _, h, _⟩; exact h; (rw [h] at hc20; simp at hc20) }
          subst hB0
          refine s_plain ?_
          refine p_val (e_move (v := .pointer _) rfl) rfl ?_
          refine p_does (d_makeMap (c := ndV) S) rfl ?_
          rintro _ w ⟨b22, rfl, S⟩
          refine p_val (e_nil rfl rfl) rfl ?_
          refine p_val (e_field rfl Try.underlying30 rfl sz28 (by decide)) rfl ?_
          refine p_does (d_storeF1 (v := .map _) (off := 1) S 1 1 rfl rfl rfl sz28 rfl rfl rfl (by first | with_reducible assumption | (rw [bv_length]; with_reducible assumption) | (rw [List.size_toArray, bv_length]; with_reducible assumption) | (simp [cat]; done) | (simp [cat]; omega) | rfl)) rfl ?_
          intro _ w S
          refine p_nil ?_
          exact x_then ⟨_, rfl, _, _, upds_eq ⟨rfl, rfl, trivial⟩, S.pk [1, 2, 0] rfl⟩
        · obtain ⟨mb, rfl⟩ : ∃ mb, mk = some mb := by { cases mk; (simp at hc20); exact ⟨_, rfl⟩ }
          refine s_skip ?_
          exact x_then ⟨_, rfl, _, _, upds_eq ⟨rfl, rfl, trivial⟩, S⟩
      · rintro f w ⟨u, mb, rfl, S⟩
        refine x_then (s_seq (s_plain ?_))
        refine p_val (e_move (v := .slice _ _ _) rfl) rfl ?_
        refine p_val (e_len rfl Try.underlying24) rfl ?_
        refine p_does (d_make1 S Try.underlying31 el3 zv3 rfl (t.length) rfl rfl (by omega) (by unfold maxLen; omega)) rfl ?_
        rintro _ w ⟨b27, rfl, S⟩
        refine p_val (e_assign (v := .slice _ _ _) rfl) rfl ?_
        refine p_nil (x_then (s_seq (s_seq (s_plain ?_))))
        refine p_val (e_move (v := .slice _ _ _) rfl) rfl ?_
        refine p_val (e_len rfl Try.underlying24) rfl ?_
        refine p_val (e_move (v := .int _ _) rfl) rfl ?_
        refine p_nil (x_then (s_block ?_))
        refine s_loopK (α := Nat) (ks := [some b27, some hb, kn, some mb]) (ps := [Rw _ _ _ _ _, Ex _ _, Rw _ _ _ _ _, Mp _ _]) [(0, .pointer _), (1, .slice _ _ _), (6, .slice _ _ _), (28, .slice _ _ _), (29, .int _ _)] ⟨rfl, rfl, rfl, rfl, rfl, trivial⟩ S (fun keep ks ps g f' w' => ∃ u Kkn Ckn B1 ids m xs, f' = upds u ((30, .int .i64 (g : Int)) :: keep) ∧ (g ≤ t.length) ∧ (into B t g = (B1, ids)) ∧ (m = B1.length) ∧ (xs = iv (idz ids t.length)) ∧ St w0 w' (exOf [some hb, kn, mk]) [some b27, some hb, Kkn, some mb] [Rw 3 1 t.length t.length xs, bankE T rest Kkn (some mb) m Ckn, Rw 40 3 (m) Ckn (ndv B1), Mp ndV B1]) (fun g => t.length - g) (0) (⟨_, _, _, _, _, _, _, upds_eq ⟨rfl, rfl, rfl, rfl, rfl, rfl, trivial⟩, by first | omega | rfl | with_reducible assumption | (simp; done) | (simp; omega), rfl, by first | omega | rfl | with_reducible assumption | (simp; done) | (simp; omega), (idz_nil _).symm, S⟩) ?_
        rintro g f w ⟨u, Kkn, Ckn, B1, ids, m, xs, rfl, hg, hI, rfl, rfl, S⟩
        have hil : ids.length = g := by { have h := into_len B t g; rw [hI] at h; exact h }
        have hbl : B1.length ≤ B.length + g := by { have h := into_blen B t g; rw [hI] at h; exact h }
        refine s_seq (s_plain ?_)
        refine p_val (e_lss rfl rfl) rfl ?_
        refine p_nil (x_then (s_seq ?_))
        refine s_cond rfl (fun hc31 => ?_) (fun hc31 => ?_)
        · obtain ⟨n, hn⟩ : ∃ n, n = t.getD g nd0 := ⟨_, rfl⟩
          have hat : t[(g : Int).toNat]? = some n := by rw [hn]; exact getD_at nd0 (by omega)
          have hok := ht.2.2 g (by omega)
          rw [← hn] at hok
          unfold ndOk at hok
          refine s_skip (x_then (s_seq (s_block (s_seq (s_plain ?_)))))
          refine p_val (e_move (v := .int _ _) rfl) rfl ?_
          refine p_val (e_ixR (S.rdOff R oR) (by decide) rfl rfl Try.underlying24 sz40 (by omega)) rfl ?_
          refine p_val (e_loadRA rfl ag40 sz40 (by decide) ((Rd.elemA (S.rdOff R oR) (fun _ _ => rfl) (hat)))) rfl ?_
          refine p_does (d_allocA S zs40) rfl ?_
          rintro _ w ⟨b8, rfl, S⟩
          refine p_val (e_assign (v := .int _ _) rfl) rfl ?_
          refine p_does (d_storeW S 0 rfl rfl (by first | exact bv_one _ | exact sv_one _ | exact iv_one _ | with_reducible assumption | (refine One.mem ?_; repeat (first | exact One.bv _ | exact One.sv _ | exact One.iv _ | exact One.nil | exact One.cat0 | refine One.cat1 ?_ ?_ | refine One.cons rfl ?_ | exact ndv_one _ | exact  ndL_one _ | refine One.append ?_ ?_))) sz40 (by first | with_reducible assumption | (rw [bv_length]; with_reducible assumption) | (rw [List.size_toArray, bv_length]; with_reducible assumption) | (simp [cat]; done) | (simp [cat]; omega) | rfl) rfl rfl (by first | with_reducible assumption | (rw [bv_length]; with_reducible assumption) | (rw [List.size_toArray, bv_length]; with_reducible assumption) | (simp [cat]; done) | (simp [cat]; omega) | rfl)) rfl ?_
          intro _ w S
          refine p_nil (x_then (s_seq ?_))
          refine s_cutK (ks := [some b8, some b27, some hb, Kkn, some mb]) (ps := [Ex _ _, Rw _ _ _ _ _, Ex _ _, Rw _ _ _ _ _, Mp _ _]) [(0, .pointer _), (1, .slice _ _ _), (6, .slice _ _ _), (7, .int _ _), (8, .pointer _), (28, .slice _ _ _), (29, .int _ _), (30, .int _ _)] ⟨rfl, rfl, rfl, rfl, rfl, rfl, rfl, rfl, trivial⟩ S (fun keep ks ps f' w' => ∃ u n2, f' = upds u (keep) ∧ (n2 = ndMap ids n) ∧ St w0 w' (exOf [some hb, kn, mk]) [some b8, some b27, some hb, Kkn, some mb] [Ex (ndL n2).toArray 40, (ps.getD 1 fun _ => True), (ps.getD 2 fun _ => True), (ps.getD 3 fun _ => True), (ps.getD 4 fun _ => True)]) ?_ ?_
          · refine s_seq (s_plain ?_)
            refine p_val (e_field rfl Try.underlying40 rfl sz3 (by decide)) rfl ?_
            refine p_val (e_loadF1 (i := 0) (off := 0) rfl ag3 S (j := 0) rfl rfl rfl (by first | with_reducible assumption | (rw [bv_length]; with_reducible assumption) | (rw [List.size_toArray, bv_length]; with_reducible assumption) | (simp [cat]; done) | (simp [cat]; omega) | rfl)) rfl ?_
            refine p_val (e_neq rfl rfl) rfl ?_
            refine p_nil (x_then ?_)
            refine s_cond rfl (fun hc37 => ?_) (fun hc37 => ?_)
            · refine s_seq (s_plain ?_)
              refine p_val (e_move (v := .slice _ _ _) rfl) rfl ?_
              refine p_val (e_field rfl Try.underlying40 rfl sz3 (by decide)) rfl ?_
              refine p_val (e_loadF1 (i := 1) (off := 1) rfl ag3 S (j := 0) rfl rfl rfl (by first | with_reducible assumption | (rw [bv_length]; with_reducible assumption) | (rw [List.size_toArray, bv_length]; with_reducible assumption) | (simp [cat]; done) | (simp [cat]; omega) | rfl)) rfl ?_
              refine p_val (e_ixR (S.rdRw 1 rfl rfl) (by decide) rfl rfl Try.underlying31 sz3 (by omega)) rfl ?_
              refine p_val (e_loadRi rfl ag3 (S.rdRw 1 rfl rfl) (by omega)) rfl ?_
              refine p_val (e_field rfl Try.underlying40 rfl sz3 (by decide)) rfl ?_
              refine p_does (d_storeF1 (v := .int _ _) (off := 1) S 0 1 rfl rfl rfl sz3 rfl rfl rfl (by first | with_reducible assumption | (rw [bv_length]; with_reducible assumption) | (rw [List.size_toArray, bv_length]; with_reducible assumption) | (simp [cat]; done) | (simp [cat]; omega) | rfl)) rfl ?_
              intro _ w S
              refine p_nil (x_then (s_seq (s_plain ?_)))
              refine p_val (e_field rfl Try.underlying40 rfl sz3 (by decide)) rfl ?_
              refine p_val (e_loadF1 (i := 0) (off := 0) rfl ag3 S (j := 0) rfl rfl rfl (by first | with_reducible assumption | (rw [bv_length]; with_reducible assumption) | (rw [List.size_toArray, bv_length]; with_reducible assumption) | (simp [cat]; done) | (simp [cat]; omega) | rfl)) rfl ?_
              refine p_val (e_neq rfl rfl) rfl ?_
              refine p_nil (x_then ?_)
              refine s_cond rfl (fun hc46 => ?_) (fun hc46 => ?_)
              · refine s_plain ?_
                refine p_val (e_move (v := .slice _ _ _) rfl) rfl ?_
                refine p_val (e_field rfl Try.underlying40 rfl sz3 (by decide)) rfl ?_
                refine p_val (e_loadF1 (i := 2) (off := 2) rfl ag3 S (j := 0) rfl rfl rfl (by first | with_reducible assumption | (rw [bv_length]; with_reducible assumption) | (rw [List.size_toArray, bv_length]; with_reducible assumption) | (simp [cat]; done) | (simp [cat]; omega) | rfl)) rfl ?_
                refine p_val (e_ixR (S.rdRw 1 rfl rfl) (by decide) rfl rfl Try.underlying31 sz3 (by omega)) rfl ?_
                refine p_val (e_loadRi rfl ag3 (S.rdRw 1 rfl rfl) (by omega)) rfl ?_
                refine p_val (e_field rfl Try.underlying40 rfl sz3 (by decide)) rfl ?_
                refine p_does (d_storeF1 (v := .int _ _) (off := 2) S 0 2 rfl rfl rfl sz3 rfl rfl rfl (by first | with_reducible assumption | (rw [bv_length]; with_reducible assumption) | (rw [List.size_toArray, bv_length]; with_reducible assumption) | (simp [cat]; done) | (simp [cat]; omega) | rfl)) rfl ?_
                intro _ w S
                refine p_nil ?_
                exact x_then ⟨_, rfl, _, ⟨n.k,  (idz ids t.length).getD n.a.toNat 0,  (idz ids t.length).getD n.b.toNat 0⟩, upds_eq ⟨rfl, rfl, rfl, rfl, rfl, rfl, rfl, rfl, trivial⟩, by unfold ndMap; rw [if_neg hc37, if_neg hc46, idz_get (by omega), idz_get (by omega)], S⟩
              · refine s_skip ?_
                exact x_then ⟨_, rfl, _, ⟨n.k,  (idz ids t.length).getD n.a.toNat 0,  n.b⟩, upds_eq ⟨rfl, rfl, rfl, rfl, rfl, rfl, rfl, rfl, trivial⟩, by unfold ndMap; rw [if_neg hc37, if_pos (Classical.not_not.1 hc46), idz_get (by omega)], S⟩
            · refine s_skip ?_
              exact x_then ⟨_, rfl, _, n, upds_eq ⟨rfl, rfl, rfl, rfl, rfl, rfl, rfl, rfl, trivial⟩, by unfold ndMap; rw [if_pos (Classical.not_not.1 hc37)], S⟩
          · rintro f w ⟨u, n2, rfl, hn2, S⟩
            refine x_then (s_plain ?_)
            refine p_val (e_move (v := .slice _ _ _) rfl) rfl ?_
            refine p_val (e_move (v := .int _ _) rfl) rfl ?_
            refine p_val (e_move (v := .pointer _) rfl) rfl ?_
            refine p_val (e_loadW 0 rfl ag40 sz40 S rfl rfl (by first | with_reducible assumption | (rw [bv_length]; with_reducible assumption) | (rw [List.size_toArray, bv_length]; with_reducible assumption) | (simp [cat]; done) | (simp [cat]; omega) | rfl)) rfl ?_
            refine p_does (d_call Try.func61 nm61 rfl rfl (bk_one _ _ _ _ _ _ _ _ _ (S.hr [2, 3, 4] rfl) (by omega))) rfl ?_
            rintro _ w ⟨k57, c57, rfl, T⟩
            have S := (S.call [2, 3, 4] T rfl).pk [3, 4, 0, 1, 2] rfl
            refine p_val (e_ixR (S.rdRw 1 rfl rfl) (by decide) rfl rfl Try.underlying31 sz3 (by omega)) rfl ?_
            refine p_does (d_storeRw1 (v := .int _ _) S 1 rfl rfl rfl rfl rfl sz3 (by omega)) rfl ?_
            intro _ w S
            refine p_nil (x_in (x_then (s_plain ?_)))
            refine p_val (e_add64 rfl rfl (by omega)) rfl ?_
            refine p_val (e_move (v := .int _ _) rfl) rfl ?_
            refine p_nil ?_
            refine x_round (g + 1) _ rfl ⟨_, _, _, _, _, _, _, upds_eq ⟨rfl, rfl, rfl, rfl, rfl, rfl, trivial⟩, by first | omega | rfl | with_reducible assumption | (simp; done) | (simp; omega), (by simp only [into, hI]; rw [← hn, ← hn2] : into B t (g + 1) = (bPut B1 n2, ids ++ [(bPut B1 n2).idxOf n2])), by first | omega | rfl | with_reducible assumption | (simp; done) | (simp; omega), by rw [Int.toNat_natCast, iv_setL]; have e := idz_set (ids := ids) (n := t.length) (x := (bPut B1 n2).idxOf n2) (by omega); rw [hil] at e; rw [e], S.pk [1, 2, 3, 4] rfl⟩ (by omega)
        · refine s_exit (x_then_exit (x_then_exit (x_in_same (x_then (s_seq (s_plain ?_))))))
          refine p_val (e_move (v := .slice _ _ _) rfl) rfl ?_
          refine p_val (e_move (v := .slice _ _ _) rfl) rfl ?_
          refine p_val (e_len rfl Try.underlying24) rfl ?_
          refine p_val (e_sub64 rfl rfl (by omega)) rfl ?_
          refine p_val (e_ixR (S.rdRw 0 rfl rfl) (by decide) rfl rfl Try.underlying31 sz3 (by omega)) rfl ?_
          refine p_val (e_loadRi rfl ag3 (S.rdRw 0 rfl rfl) (by omega)) rfl ?_
          refine p_val (e_assign (v := .int _ _) rfl) rfl ?_
          refine p_val (e_assign (v := .int _ _) rfl) rfl ?_
          refine p_nil (x_then (s_ret ?_))
          exact post2 (v := .int _ _) (x := .int _ _) Try.results29 rfl rfl (by obtain rfl : g = t.length := (by omega); have e : (idz ids t.length).getD ((t.length : Int) - 1).toNat 0 = ((tid B t : Nat) : Int) := (by rw [idz_get (by omega)]; unfold tid; rw [hI, show ((t.length : Int) - 1).toNat = t.length - 1 by omega]); have hbk : bank B t = B1 := (by unfold bank; rw [hI]); rw [e, hbk]; exact ⟨_, _, _, rfl, S.pk [1, 2, 3] rfl⟩)
theorem bk_into_no (w0 : World) (hb : Nat) (kn mk : Option Nat) (c : Nat) (T : TypeId) (rest : List (List Value)) (B : List Nd) (A : Option Addr) (c0 : Nat) (t : List Nd) (S0 : St w0 w0 (exOf [some hb, kn, mk]) [some hb, kn, mk] [bankE T rest kn mk B.length c, nodeR B.length c B, Mp ndV B]) (R : Rd w0 3 A t.length (ndv t)) (oR : Off A t.length (exOf [some hb, kn, mk])) (ht : ¬ tRight t) :
    Ret Try.prog 29 [.pointer (some ⟨hb, 0, none⟩), .slice A t.length c0] w0 fun v w' => v = .tuple #[.int .i64 0, .int .i64 1] ∧ St w0 w' (exOf [some hb, kn, mk]) [some hb, kn, mk] [bankE T rest kn mk B.length c, nodeR B.length c B, Mp ndV B] := by
  refine enter Try.func29 rfl Try.ntmps29 (Nat.le_of_ble_eq_true rfl) ?_
  have S := S0
  refine s_seq (s_plain ?_)
  refine p_val (e_assign (v := .int _ _) rfl) rfl ?_
  refine p_val (e_assign (v := .int _ _) rfl) rfl ?_
  refine p_nil (x_then (s_seq (s_seq ?_)))
  refine s_cutK (ks := [some hb, kn, mk]) (ps := [Ex _ _, Rw _ _ _ _ _, Mp _ _]) [(0, .pointer _), (1, .slice _ _ _)] ⟨rfl, rfl, trivial⟩ S (fun keep ks ps f' w' => ∃ u bb, f' = upds u ((15, .bool bb) :: keep) ∧ (bb = true ↔ True) ∧ St w0 w' (exOf [some hb, kn, mk]) ks ps) ?_ ?_
  · refine s_plain ?_
    refine p_val (e_move (v := .pointer _) rfl) rfl ?_
    refine p_valb (e_eqlP rfl rfl Try.underlying63) rfl (fun hg10 => ?_) (fun hg10 => ?_)
    · exact False.elim (by simp at hg10)
    · refine p_val (e_move (v := .bool _) rfl) rfl ?_
      refine pg_val rfl rfl rfl rfl rfl (e_move (v := .slice _ _ _) rfl) ?_
      refine pg_does rfl rfl rfl rfl rfl (d_call Try.func60 nm60 rfl rfl (tm_right _ _ _ _ (S.rdOff R oR))) ?_
      rintro _ w ⟨rfl, hB⟩
      have S := S.below hB
      rcases Classical.em (tRight t) with hg13 | hg13
      · exact False.elim (ht hg13)
      · rw [decide_eq_false hg13]
        refine pg_val rfl rfl rfl rfl rfl (e_not rfl) ?_
        refine p_val (e_pick_f rfl rfl) rfl ?_
        exact p_nil (x_then ⟨_, rfl, _, _, upds_eq ⟨rfl, rfl, rfl, trivial⟩, by first | (simp only [decide_eq_true_eq, eq_self, true_iff, iff_true, iff_false, Bool.false_eq_true, false_iff, ge_iff_le, gt_iff_lt, true_and, and_true, false_and, and_false, true_or, or_true, false_or, or_false, not_true_eq_false, not_false_eq_true]; omega) | (simp; done) | omega | (simp_all; done), S⟩)
  · rintro f w ⟨u, b15, rfl, hb15, S⟩
    refine x_then ?_
    refine s_condb rfl (fun hc15 => ?_) (fun hc15 => ?_)
    · have hp15 : True := hb15.1 hc15
      refine s_seq (s_plain ?_)
      refine p_val (e_assign (v := .int _ _) rfl) rfl ?_
      refine p_val (e_assign (v := .int _ _) rfl) rfl ?_
      refine p_nil (x_then (s_ret (x_then_ret ?_)))
      exact post2 (v := .int _ _) (x := .int _ _) Try.results29 rfl rfl (⟨rfl, S⟩)
    · exact False.elim ((fun (hp15 : ¬ True) => hp15 trivial) (fun h => by rw [hb15.2 h] at hc15; cases hc15))
theorem bk_into_nil (w0 : World) (A : Option Addr) (n0 c0 : Nat) :
    Ret Try.prog 29 [.pointer none, .slice A n0 c0] w0 fun v w' => v = .tuple #[.int .i64 0, .int .i64 1] ∧ Below w0.heap.size w0 w' := by
  refine enter Try.func29 rfl Try.ntmps29 (Nat.le_of_ble_eq_true rfl) ?_
  have S := St.init w0
  refine s_seq (s_plain ?_)
  refine p_val (e_assign (v := .int _ _) rfl) rfl ?_
  refine p_val (e_assign (v := .int _ _) rfl) rfl ?_
  refine p_nil (x_then (s_seq (s_seq ?_)))
  refine s_cutK (ks := []) (ps := []) [(0, .pointer _), (1, .slice _ _ _)] ⟨rfl, rfl, trivial⟩ S (fun keep ks ps f' w' => ∃ u bb, f' = upds u ((15, .bool bb) :: keep) ∧ (bb = true ↔ True) ∧ St w0 w' [] ks ps) ?_ ?_
  · refine s_plain ?_
    refine p_val (e_move (v := .pointer _) rfl) rfl ?_
    refine p_valb (e_eqlP rfl rfl Try.underlying63) rfl (fun hg10 => ?_) (fun hg10 => ?_)
    · refine p_val (e_move (v := .bool _) rfl) rfl ?_
      refine p_no rfl rfl rfl rfl rfl ?_
      refine p_no rfl rfl rfl rfl rfl ?_
      refine p_no rfl rfl rfl rfl rfl ?_
      refine p_val (e_pick_t rfl rfl) rfl ?_
      exact p_nil (x_then ⟨_, rfl, _, _, upds_eq ⟨rfl, rfl, rfl, trivial⟩, by first | (simp only [decide_eq_true_eq, eq_self, true_iff, iff_true, iff_false, Bool.false_eq_true, false_iff, ge_iff_le, gt_iff_lt, true_and, and_true, false_and, and_false, true_or, or_true, false_or, or_false, not_true_eq_false, not_false_eq_true]; omega) | (simp; done) | omega | (simp_all; done), S⟩)
    · exact False.elim (by simp at hg10)
  · rintro f w ⟨u, b15, rfl, hb15, S⟩
    refine x_then ?_
    refine s_condb rfl (fun hc15 => ?_) (fun hc15 => ?_)
    · have hp15 : True := hb15.1 hc15
      refine s_seq (s_plain ?_)
      refine p_val (e_assign (v := .int _ _) rfl) rfl ?_
      refine p_val (e_assign (v := .int _ _) rfl) rfl ?_
      refine p_nil (x_then (s_ret (x_then_ret ?_)))
      exact post2 (v := .int _ _) (x := .int _ _) Try.results29 rfl rfl (⟨rfl, S.to_below⟩)
    · exact False.elim ((fun (hp15 : ¬ True) => hp15 trivial) (fun h => by rw [hb15.2 h] at hc15; cases hc15))
theorem bk_intoR (w0 : World) (hb : Nat) (kn mk : Option Nat) (c : Nat) (T : TypeId) (rest : List (List Value)) (B : List Nd) (A : Option Addr) (c0 : Nat) (t : List Nd) (S0 : St w0 w0 (exOf [some hb, kn, mk]) [some hb, kn, mk] [bankE T rest kn mk B.length c, nodeR B.length c B, Mp ndV B]) (hl : B.length ≤ 100000) (R : Rd w0 3 A t.length (ndv t)) (oR : Off A t.length (exOf [some hb, kn, mk])) :
     Ret Try.prog 29 [.pointer (some ⟨hb, 0, none⟩), .slice A t.length c0] w0 fun v w' => ∃ kn' c' mk' i e B', v = .tuple #[.int .i64 i, .int .i64 e] ∧ (tRight t → i = ((tid B t : Nat) : Int) ∧ e = 0) ∧ (¬ tRight t → i = 0 ∧ e = 1) ∧ B' = bankR B t ∧ St w0 w' (exOf [some hb, kn, mk]) [some hb, kn', mk'] [bankE T rest kn' mk' (List.length B') c', nodeR (List.length B') c' B', Mp ndV B'] := by
  by_cases ht : tRight t
  · refine (bk_into w0 hb kn mk c T rest B A c0 t S0 hl R oR ht).mono ?_
    rintro v w' ⟨kn', c', mk', rfl, U⟩
    refine ⟨kn', c', mk', _, _, _, rfl, fun _ => ⟨rfl, rfl⟩, fun h => absurd ht h, rfl, ?_⟩
    unfold bankR; rw [if_pos ht]; exact U
  · refine (bk_into_no w0 hb kn mk c T rest B A c0 t S0 R oR ht).mono ?_
    rintro v w' ⟨rfl, U⟩
    refine ⟨kn, c, mk, _, _, _, rfl, fun h => absurd h ht, fun _ => ⟨rfl, rfl⟩, rfl, ?_⟩
    unfold bankR; rw [if_neg ht]; exact U
end Go.Proofs.Ytcgcjklpilbndaa

/- What can be put together of some, what some come to: the loops' plain laws. It proves no statement by itself. -/
set_option linter.unusedSimpArgs false
set_option linter.unusedVariables false
namespace Go.Proofs.Ytcgcjklpilbndaa
open Go Go.RowKit E
/-- those that are marked -/
abbrev On (l : List Bool) : Nat → Prop := fun i => l.getD i false = true
theorem setB_get {l : List Bool} {i : Nat} {x : Bool} (h : i < l.length) (j : Nat) : (l.set i x).getD j false = if j = i then x else l.getD j false := by
  rw [List.getD_eq_getElem?_getD, List.getElem?_set, List.getD_eq_getElem?_getD]
  by_cases hj : j = i
  · subst hj; simp [h]
  · rw [if_neg (fun e => hj e.symm), if_neg hj]
theorem setB_same {l : List Bool} {i : Nat} (h : l.getD i false = true) : l.set i true = l := by
  have hi : i < l.length := by
    refine Nat.lt_of_not_le fun hn => ?_
    rw [List.getD_eq_getElem?_getD, List.getElem?_eq_none hn] at h
    cases h
  apply List.ext_getElem?
  intro j
  rw [List.getElem?_set]
  split
  · rename_i e; subst e
    rw [List.getD_eq_getElem?_getD, List.getElem?_eq_getElem hi] at h
    rw [List.getElem?_eq_getElem hi]
    exact congrArg some h.symm
  · rfl
/-- 'make', as far as it has come -/
def MkI (B : List Nd) (l o : List Bool) (g : Nat) : Prop := o.length = B.length ∧ (∀ i, i < g → (On o i ↔ Mk B (On l) i)) ∧ ∀ i, g ≤ i → o.getD i false = l.getD i false
theorem MkI.start {B : List Nd} {l : List Bool} (h : l.length = B.length) : MkI B l l 0 := ⟨h, fun i hi => absurd hi (Nat.not_lt_zero _), fun _ _ => rfl⟩
theorem MkI.keep {B : List Nd} {l o : List Bool} {g : Nat} {n : Nd} (h : MkI B l o g) (hn : B[g]? = some n) (hc : o.getD g false = true ∨ n.k = 1) : MkI B l o (g + 1) := by
  refine ⟨h.1, fun i hi => ?_, fun i hi => h.2.2 i (by omega)⟩
  by_cases hig : i < g
  · exact h.2.1 i hig
  · obtain rfl : i = g := by omega
    have e := h.2.2 i (Nat.le_refl _)
    constructor
    · intro ho; exact .of (by show l.getD i false = true; rw [← e]; exact ho)
    · intro m
      show o.getD i false = true
      cases m with
      | of hi => rw [e]; exact hi
      | hash hn' hk _ => rw [hn] at hn'; cases hn'; rcases hc with hc | hc; exact hc; omega
      | node hn' h1 _ _ _ => rw [hn] at hn'; cases hn'; rcases hc with hc | hc; exact hc; exact absurd hc h1
theorem MkI.hash {B : List Nd} {l o : List Bool} {g : Nat} {n : Nd} (h : MkI B l o g) (hn : B[g]? = some n) (hc : ¬ (o.getD g false = true ∨ n.k = 1)) (hk : n.k = 3) (ha : n.a.toNat < g) : MkI B l (o.set g (o.getD n.a.toNat false)) (g + 1) := by
  have hg : g < o.length := by rw [h.1]; exact (List.getElem?_eq_some_iff.1 hn).1
  refine ⟨by rw [List.length_set, h.1], fun i hi => ?_, fun i hi => ?_⟩
  · show (o.set g _).getD i false = true ↔ _
    rw [setB_get hg]
    by_cases hig : i < g
    · rw [if_neg (by omega)]; exact h.2.1 i hig
    · obtain rfl : i = g := by omega
      rw [if_pos rfl]
      have e := h.2.2 i (Nat.le_refl _)
      have := h.2.1 _ ha
      constructor
      · intro ho; exact .hash hn hk (this.1 ho)
      · intro m
        cases m with
        | of hi => exact absurd (.inl (by rw [e]; exact hi)) hc
        | hash hn' _ m' => rw [hn] at hn'; cases hn'; exact this.2 m'
        | node hn' _ h3 _ _ => rw [hn] at hn'; cases hn'; exact absurd hk h3
  · rw [setB_get hg, if_neg (by omega)]; exact h.2.2 i (by omega)
theorem MkI.node {B : List Nd} {l o : List Bool} {g : Nat} {n : Nd} (h : MkI B l o g) (hn : B[g]? = some n) (hc : ¬ (o.getD g false = true ∨ n.k = 1)) (hk : ¬ n.k = 3) (ha : n.a.toNat < g) (hb : n.b.toNat < g) : MkI B l (o.set g (o.getD n.a.toNat false && o.getD n.b.toNat false)) (g + 1) := by
  have hg : g < o.length := by rw [h.1]; exact (List.getElem?_eq_some_iff.1 hn).1
  refine ⟨by rw [List.length_set, h.1], fun i hi => ?_, fun i hi => ?_⟩
  · show (o.set g _).getD i false = true ↔ _
    rw [setB_get hg]
    by_cases hig : i < g
    · rw [if_neg (by omega)]; exact h.2.1 i hig
    · obtain rfl : i = g := by omega
      rw [if_pos rfl, Bool.and_eq_true]
      have e := h.2.2 i (Nat.le_refl _)
      have h1 := h.2.1 _ ha
      have h2 := h.2.1 _ hb
      constructor
      · intro ho; exact .node hn (fun q => hc (.inr q)) hk (h1.1 ho.1) (h2.1 ho.2)
      · intro m
        cases m with
        | of hi => exact absurd (.inl (by rw [e]; exact hi)) hc
        | hash hn' h3 _ => rw [hn] at hn'; cases hn'; exact absurd h3 hk
        | node hn' _ _ ma mb => rw [hn] at hn'; cases hn'; exact ⟨h1.2 ma, h2.2 mb⟩
  · rw [setB_get hg, if_neg (by omega)]; exact h.2.2 i (by omega)
/-- how many are not marked -/
def cntF (l : List Bool) : Nat := l.countP (fun b => !b)
theorem cntF_set : ∀ {l : List Bool} {i : Nat}, i < l.length → l.getD i false = false → cntF (l.set i true) + 1 = cntF l
  | a :: l, 0, _, h => by
    have : a = false := by simpa using h
    subst this
    simp [cntF]
  | a :: l, i + 1, hi, h => by
    have ih := cntF_set (l := l) (i := i) (by simpa using hi) (by simpa using h)
    unfold cntF at ih ⊢
    rw [List.set_cons_succ, List.countP_cons, List.countP_cons]
    omega
theorem cntF_le {l : List Bool} (i : Nat) : cntF (l.set i true) ≤ cntF l := by
  by_cases hi : i < l.length
  · cases h : l.getD i false with
    | true => rw [setB_same h]; exact Nat.le_refl _
    | false => have := cntF_set hi h; omega
  · rw [List.set_eq_of_length_le (by omega)]; exact Nat.le_refl _
/-- all that is marked is had; all that is known is marked -/
def OI (B : List Nd) (K : List Nat) (l : List Bool) : Prop := l.length = B.length ∧ (∀ i, On l i → Has B K i) ∧ ∀ i ∈ K, On l i
theorem OI.set {B : List Nd} {K : List Nat} {l : List Bool} (h : OI B K l) {i : Nat} (hi : i < B.length) (hh : Has B K i) : OI B K (l.set i true) := by
  have hl : i < l.length := by rw [h.1]; exact hi
  refine ⟨by rw [List.length_set, h.1], fun j hj => ?_, fun j hj => ?_⟩
  · have hj' : (l.set i true).getD j false = true := hj
    rw [setB_get hl] at hj'
    split at hj'
    · rename_i e; rw [e]; exact hh
    · exact h.2.1 j hj'
  · show (l.set i true).getD j false = true
    rw [setB_get hl]
    split
    · rfl
    · exact h.2.2 j hj
/-- is a place taken apart? -/
def ClAt (B : List Nd) (l : List Bool) (i : Nat) : Prop := ∀ n : Nd, On l i → B[i]? = some n → (n.k = 2 → On l n.a.toNat ∧ On l n.b.toNat) ∧ (n.k = 4 → On l n.b.toNat) ∧ (n.k = 5 → Mk B (On l) n.a.toNat → On l n.b.toNat)
/-- a pass, as far as it has come: l0 ahead of it, l now, mo: was one marked? -/
def PI (B : List Nd) (l0 : List Bool) (j : Nat) (l : List Bool) (mo : Bool) : Prop := (mo = false → l = l0 ∧ ∀ i, i < j → ClAt B l i) ∧ (mo = true → cntF l < cntF l0)
/-- .. inside a round: nothing is said of the place at hand -/
def QI (l0 l : List Bool) (mo : Bool) : Prop := (mo = false → l = l0) ∧ (mo = true → cntF l < cntF l0)
theorem QI.set {l0 l : List Bool} {mo : Bool} {i : Nat} (h : QI l0 l mo) (hi : i < l.length) : QI l0 (l.set i true) (!l.getD i false || mo) := by
  cases hx : l.getD i false with
  | true => rw [setB_same hx]; simpa using h
  | false =>
    refine ⟨fun e => by simp at e, fun _ => ?_⟩
    have := cntF_set hi hx
    cases mo with
    | true => have := h.2 rfl; omega
    | false => have := h.1 rfl; subst this; omega
theorem PI.start (B : List Nd) (l : List Bool) : PI B l 0 l false := ⟨fun _ => ⟨rfl, fun i hi => absurd hi (Nat.not_lt_zero _)⟩, fun h => by cases h⟩
theorem PI.q {B : List Nd} {l0 l : List Bool} {j : Nat} {mo : Bool} (h : PI B l0 j l mo) : QI l0 l mo := ⟨fun e => (h.1 e).1, h.2⟩
/-- a round that marks 'l2' of 'l', told by mo2: where nothing was marked, the place is taken apart -/
theorem PI.next {B : List Nd} {l0 l l2 : List Bool} {j : Nat} {mo mo2 : Bool} (h : PI B l0 j l mo) (hq : QI l0 l2 mo2) (hm : mo2 = false → mo = false ∧ l2 = l ∧ ClAt B l j) : PI B l0 (j + 1) l2 mo2 := by
  refine ⟨fun e => ⟨hq.1 e, fun i hi => ?_⟩, hq.2⟩
  obtain ⟨h1, h2, h3⟩ := hm e
  rw [h2]
  by_cases hij : i < j
  · exact (h.1 h1).2 i hij
  · obtain rfl : i = j := by omega
    exact h3
theorem clAt_off {B : List Nd} {l : List Bool} {j : Nat} (h : l.getD j false = false) : ClAt B l j := fun n hn => by
  have : l.getD j false = true := hn
  rw [h] at this; cases this
theorem clAt_of {B : List Nd} {l : List Bool} {j : Nat} {n : Nd} (hn : B[j]? = some n) (h2 : n.k = 2 → On l n.a.toNat ∧ On l n.b.toNat) (h4 : n.k = 4 → On l n.b.toNat) (h5 : n.k = 5 → Mk B (On l) n.a.toNat → On l n.b.toNat) : ClAt B l j := fun n' _ hn' => by
  rw [hn] at hn'; cases hn'; exact ⟨h2, h4, h5⟩
/-- nothing more to mark: all that is had is marked -/
theorem open_done {B : List Nd} {K : List Nat} {l : List Bool} (h : OI B K l) (hc : ∀ i, i < B.length → ClAt B l i) (i : Nat) : On l i ↔ Has B K i :=
  ⟨h.2.1 i, fun hh => hh (On l) ⟨h.2.2, fun i n hi hn => hc i (List.getElem?_eq_some_iff.1 hn).1 n hi hn⟩⟩
theorem OI.mk {B : List Nd} {K : List Nat} {l : List Bool} (h : OI B K l) {i : Nat} (m : Mk B (On l) i) : Mk B (Has B K) i := m.mono (List.prefix_refl _) h.2.1
/-- 'open', while it marks what is known -/
def KI (B : List Nd) (K : List Nat) (l : List Bool) (g : Nat) : Prop := l.length = B.length ∧ (∀ i, On l i → Has B K i) ∧ ∀ j, j < g → On l (K.getD j 0)
theorem KI.start {B : List Nd} {K : List Nat} : KI B K (List.replicate B.length false) 0 := by
  refine ⟨by simp, fun i hi => ?_, fun j hj => absurd hj (Nat.not_lt_zero _)⟩
  have h : (List.replicate B.length false).getD i false = true := hi
  rw [List.getD_eq_getElem?_getD, List.getElem?_replicate] at h
  split at h <;> cases h
theorem KI.next {B : List Nd} {K : List Nat} {l : List Bool} {g : Nat} (h : KI B K l g) (hg : g < K.length) (hk : ∀ i ∈ K, i < B.length) : KI B K (l.set (K.getD g 0) true) (g + 1) := by
  have hm : K.getD g 0 ∈ K := by rw [List.getD_eq_getElem?_getD, List.getElem?_eq_getElem hg]; exact List.getElem_mem hg
  have hl : K.getD g 0 < l.length := by rw [h.1]; exact hk _ hm
  refine ⟨by rw [List.length_set, h.1], fun j hj => ?_, fun j hj => ?_⟩
  · have hj' : (l.set (K.getD g 0) true).getD j false = true := hj
    rw [setB_get hl] at hj'
    split at hj'
    · rename_i e; rw [e]; exact Has.known hm
    · exact h.2.1 j hj'
  · show (l.set (K.getD g 0) true).getD (K.getD j 0) false = true
    rw [setB_get hl]
    split
    · rfl
    · rename_i hne
      by_cases hjg : j < g
      · exact h.2.2 j hjg
      · obtain rfl : j = g := by omega
        exact absurd rfl hne
theorem KI.done {B : List Nd} {K : List Nat} {l : List Bool} (h : KI B K l K.length) : OI B K l := ⟨h.1, h.2.1, fun i hi => by
  obtain ⟨j, hj, e⟩ := List.getElem_of_mem hi
  have := h.2.2 j hj
  rw [List.getD_eq_getElem?_getD, List.getElem?_eq_getElem hj] at this
  simpa [e] using this⟩
theorem bool_or {m mo x : Bool} (h : m = true ↔ (x = false ∨ mo = true)) : m = (!x || mo) := by
  rw [Bool.eq_iff_iff, h]; cases x <;> cases mo <;> simp
theorem off_step {B : List Nd} {l0 l : List Bool} {j : Nat} {mo : Bool} (hP : PI B l0 j l mo) (h : l.getD j false = false) : PI B l0 (j + 1) l mo :=
  hP.next hP.q fun e => ⟨e, rfl, clAt_off h⟩
theorem wf_lt {B : List Nd} (hB : Wf B) {j : Nat} {n : Nd} (hn : B[j]? = some n) (hk : n.k = 2 ∨ n.k = 4 ∨ n.k = 5) : 0 ≤ n.a ∧ n.a < B.length ∧ 0 ≤ n.b ∧ n.b < B.length := by
  have hj := (List.getElem?_eq_some_iff.1 hn).1
  rcases hB j n hn with h | ⟨h, _⟩ | ⟨_, h1, h2, h3, h4⟩
  · omega
  · omega
  · omega
theorem pair_step {B : List Nd} {K : List Nat} {l0 l : List Bool} {j : Nat} {mo m1 m2 : Bool} {n : Nd} (hB : Wf B) (hO : OI B K l) (hP : PI B l0 j l mo) (hn : B[j]? = some n) (hon : On l j) (hk : n.k = 2)
    (h1 : m1 = true ↔ (l.getD n.a.toNat false = false ∨ mo = true)) (h2 : m2 = true ↔ ((l.set n.a.toNat true).getD n.b.toNat false = false ∨ m1 = true)) :
    OI B K ((l.set n.a.toNat true).set n.b.toNat true) ∧ PI B l0 (j + 1) ((l.set n.a.toNat true).set n.b.toNat true) m2 := by
  have hw := wf_lt hB hn (.inl hk)
  have hst := (has_step (hO.2.1 j hon) hn).1 hk
  have hO1 := hO.set (i := n.a.toNat) (by omega) hst.1
  have hO2 := hO1.set (i := n.b.toNat) (by omega) hst.2
  have q1 := hP.q.set (i := n.a.toNat) (by rw [hO.1]; omega)
  rw [← bool_or h1] at q1
  have q2 := q1.set (i := n.b.toNat) (by rw [hO1.1]; omega)
  rw [← bool_or h2] at q2
  refine ⟨hO2, hP.next q2 fun e => ?_⟩
  have e2 : ¬ ((l.set n.a.toNat true).getD n.b.toNat false = false ∨ m1 = true) := fun h => by rw [h2.2 h] at e; cases e
  have e1 : ¬ (l.getD n.a.toNat false = false ∨ mo = true) := fun h => e2 (.inr (h1.2 h))
  have ea : l.getD n.a.toNat false = true := by cases h : l.getD n.a.toNat false with | true => rfl | false => exact absurd (.inl h) e1
  have eb : (l.set n.a.toNat true).getD n.b.toNat false = true := by cases h : (l.set n.a.toNat true).getD n.b.toNat false with | true => rfl | false => exact absurd (.inl h) e2
  have em : mo = false := by cases h : mo with | false => rfl | true => exact absurd (.inr h) e1
  rw [setB_same eb, setB_same ea]
  rw [setB_same ea] at eb
  exact ⟨em, rfl, clAt_of hn (fun _ => ⟨ea, eb⟩) (fun h => by omega) (fun h => by omega)⟩
theorem one_step {B : List Nd} {K : List Nat} {l0 l : List Bool} {j : Nat} {mo m2 : Bool} {n : Nd} (hB : Wf B) (hO : OI B K l) (hP : PI B l0 j l mo) (hn : B[j]? = some n) (hon : On l j) (hk : n.k = 4 ∨ n.k = 5) (hm : n.k = 5 → Mk B (On l) n.a.toNat)
    (h2 : m2 = true ↔ (l.getD n.b.toNat false = false ∨ mo = true)) : OI B K (l.set n.b.toNat true) ∧ PI B l0 (j + 1) (l.set n.b.toNat true) m2 := by
  have hw := wf_lt hB hn (by omega)
  have hst := has_step (hO.2.1 j hon) hn
  have hh : Has B K n.b.toNat := by
    rcases hk with h4 | h5
    · exact hst.2.1 h4
    · exact hst.2.2 h5 (hO.mk (hm h5))
  have hO1 := hO.set (i := n.b.toNat) (by omega) hh
  have q1 := hP.q.set (i := n.b.toNat) (by rw [hO.1]; omega)
  rw [← bool_or h2] at q1
  refine ⟨hO1, hP.next q1 fun e => ?_⟩
  have e2 : ¬ (l.getD n.b.toNat false = false ∨ mo = true) := fun h => by rw [h2.2 h] at e; cases e
  have eb : l.getD n.b.toNat false = true := by cases h : l.getD n.b.toNat false with | true => rfl | false => exact absurd (.inl h) e2
  have em : mo = false := by cases h : mo with | false => rfl | true => exact absurd (.inr h) e2
  rw [setB_same eb]
  exact ⟨em, rfl, clAt_of hn (fun h => by omega) (fun _ => eb) (fun _ _ => eb)⟩
theorem idle_step {B : List Nd} {l0 l : List Bool} {j : Nat} {mo : Bool} {n : Nd} (hP : PI B l0 j l mo) (hn : B[j]? = some n) (h2 : ¬ n.k = 2) (h4 : ¬ n.k = 4) (h5 : n.k = 5 → ¬ Mk B (On l) n.a.toNat) : PI B l0 (j + 1) l mo :=
  hP.next hP.q fun e => ⟨e, rfl, clAt_of hn (fun h => absurd h h2) (fun h => absurd h h4) (fun h m => absurd m (h5 h))⟩
theorem pass_less {B : List Nd} {l0 l : List Bool} {j : Nat} {mo : Bool} (h : PI B l0 j l mo) : 2 * cntF l + (if mo = true then 1 else 0) < 2 * cntF l0 + (if true = true then 1 else 0) := by
  cases mo with
  | false => have e := (h.1 rfl).1; subst e; simp
  | true => have := h.2 rfl; simp; omega
end Go.Proofs.Ytcgcjklpilbndaa

/- What can be put together, walked. It proves no statement by itself. -/
set_option linter.unusedSimpArgs false
set_option linter.unusedVariables false
set_option maxRecDepth 100000
set_option maxHeartbeats 1000000
namespace Go.Proofs.Ytcgcjklpilbndaa
open Go Go.RowKit E
attribute [local irreducible] wpList seqH treeH
abbrev mindE (kn mk kk : Option Nat) (n c nk ck : Nat) : Option Obj → Prop := Ex (cat [[.slice (at_ kn) n c], [.map mk], [.slice (at_ kk) nk ck]]).toArray 33
abbrev boolR (n c : Nat) (l : List Bool) : Option Obj → Prop := Rw 4 1 n c (bbv l)
theorem md_make (w0 : World) (hb : Nat) (kn mk kk : Option Nat) (c nk ck : Nat) (B : List Nd) (A : Option Addr) (c0 : Nat) (l : List Bool) (S0 : St w0 w0 (exOf [some hb, kn]) [some hb, kn] [mindE kn mk kk B.length c nk ck, nodeR B.length c B]) (hB : Wf B) (hl : B.length ≤ 1000000) (hll : l.length = B.length) (R : Rd w0 1 A B.length (bbv l)) (oR : Off A B.length (exOf [some hb, kn])) :
    Ret Try.prog 50 [.pointer (some ⟨hb, 0, none⟩), .slice A B.length c0] w0 fun v w' => ∃ k2 c2 o, v = .slice (at_ k2) B.length c2 ∧ List.length o = B.length ∧ (∀ i, i < B.length → (On o i ↔ Mk B (On l) i)) ∧ St w0 w' (exOf [some hb, kn]) [k2, some hb, kn] [boolR B.length c2 o, mindE kn mk kk B.length c nk ck, nodeR B.length c B] := by
  refine enter Try.func50 rfl Try.ntmps50 (Nat.le_of_ble_eq_true rfl) ?_
  have S := S0
  refine s_seq (s_plain ?_)
  refine p_val (e_assign (v := .slice _ _ _) rfl) rfl ?_
  refine p_nil (x_then (s_seq (s_plain ?_)))
  refine p_val (e_move (v := .slice _ _ _) rfl) rfl ?_
  have S := S.addNil 4 1
  refine p_does (d_append S 0 rfl rfl Try.underlying105 el4 rfl rfl (S.rdOff R oR) (bbv_one _) (by first | omega | (simp only [List.length_append, List.length_cons, List.length_nil, bv_length]; omega) | (simp [cat]; omega)) (by unfold maxLen; first | omega | (simp only [List.length_append, List.length_cons, List.length_nil, bv_length]; omega))) rfl ?_
  rintro _ w ⟨k9, c9, rfl, S⟩
  refine p_val (e_assign (v := .slice _ _ _) rfl) rfl ?_
  refine p_nil (x_then (s_seq (s_seq (s_plain ?_))))
  refine p_val (e_move (v := .pointer _) rfl) rfl ?_
  refine p_val (e_nil rfl rfl) rfl ?_
  refine p_val (e_field rfl Try.underlying33 rfl sz30 (by decide)) rfl ?_
  refine p_val (e_field rfl Try.underlying30 rfl sz23 (by decide)) rfl ?_
  refine p_val (e_loadF1 (i := 0) (off := 0) rfl ag23 S (j := 1) rfl rfl rfl (by first | with_reducible assumption | (rw [bv_length]; with_reducible assumption) | (rw [List.size_toArray, bv_length]; with_reducible assumption) | (simp [cat]; done) | (simp [cat]; omega) | rfl)) rfl ?_
  refine p_val (e_len rfl Try.underlying23) rfl ?_
  refine p_val (e_move (v := .int _ _) rfl) rfl ?_
  refine p_nil (x_then (s_block ?_))
  refine s_loopK (α := Nat) (ks := [k9, some hb, kn]) (ps := [Rw _ _ _ _ _, Ex _ _, Rw _ _ _ _ _]) [(5, .slice _ _ _), (14, .slice _ _ _), (15, .int _ _)] ⟨rfl, rfl, rfl, trivial⟩ S (fun keep ks ps g f' w' => ∃ u o, f' = upds u ((16, .int .i64 (g : Int)) :: keep) ∧ (g ≤ B.length) ∧ (MkI B l o g) ∧ St w0 w' (exOf [some hb, kn]) [k9, some hb, kn] [Rw 4 1 (0 + B.length) c9 (bbv o), (ps.getD 1 fun _ => True), (ps.getD 2 fun _ => True)]) (fun g => B.length - g) (0) (⟨_, _, upds_eq ⟨rfl, rfl, rfl, rfl, trivial⟩, by first | omega | rfl | with_reducible assumption | (simp; done) | (simp; omega), MkI.start hll, S⟩) ?_
  rintro g f w ⟨u, o, rfl, hg, hI, S⟩
  refine s_seq (s_plain ?_)
  refine p_val (e_lss rfl rfl) rfl ?_
  refine p_nil (x_then (s_seq ?_))
  refine s_cond rfl (fun hc17 => ?_) (fun hc17 => ?_)
  · obtain ⟨n, hn⟩ : ∃ n, n = B.getD g nd0 := ⟨_, rfl⟩
    have hat0 : B[g]? = some n := by rw [hn]; exact getD_at nd0 (by omega)
    have hat : B[(g : Int).toNat]? = some n := hat0
    have hw := hB g n hat0
    have hol := hI.1
    obtain ⟨ob, hob⟩ : ∃ ob, ob = o.getD g false := ⟨_, rfl⟩
    refine s_skip (x_then (s_seq ?_))
    refine s_cutK (ks := [k9, some hb, kn]) (ps := [Rw _ _ _ _ _, Ex _ _, Rw _ _ _ _ _]) [(5, .slice _ _ _), (14, .slice _ _ _), (15, .int _ _), (16, .int _ _)] ⟨rfl, rfl, rfl, rfl, trivial⟩ S (fun keep ks ps f' w' => ∃ u o2, f' = upds u (keep) ∧ (MkI B l o2 (g + 1)) ∧ St w0 w' (exOf [some hb, kn]) [k9, some hb, kn] [Rw 4 1 (0 + B.length) c9 (bbv o2), (ps.getD 1 fun _ => True), (ps.getD 2 fun _ => True)]) ?_ ?_
    · refine s_block (s_seq (s_plain ?_))
      refine p_val (e_move (v := .int _ _) rfl) rfl ?_
      refine p_val (e_ixR (S.rdRw 2 rfl rfl) (by decide) rfl rfl Try.underlying23 sz40 (by omega)) rfl ?_
      refine p_val (e_loadRA rfl ag40 sz40 (by decide) ((Rd.elemA (S.rdRw 2 rfl rfl) (fun _ _ => rfl) (hat)))) rfl ?_
      refine p_does (d_allocA S zs40) rfl ?_
      rintro _ w ⟨b7, rfl, S⟩
      refine p_val (e_assign (v := .int _ _) rfl) rfl ?_
      refine p_does (d_storeW S 0 rfl rfl (by first | exact bv_one _ | exact sv_one _ | exact iv_one _ | with_reducible assumption | (refine One.mem ?_; repeat (first | exact One.bv _ | exact One.sv _ | exact One.iv _ | exact One.nil | exact One.cat0 | refine One.cat1 ?_ ?_ | refine One.cons rfl ?_ | exact ndv_one _ | exact  ndL_one _ | refine One.append ?_ ?_))) sz40 (by first | with_reducible assumption | (rw [bv_length]; with_reducible assumption) | (rw [List.size_toArray, bv_length]; with_reducible assumption) | (simp [cat]; done) | (simp [cat]; omega) | rfl) rfl rfl (by first | with_reducible assumption | (rw [bv_length]; with_reducible assumption) | (rw [List.size_toArray, bv_length]; with_reducible assumption) | (simp [cat]; done) | (simp [cat]; omega) | rfl)) rfl ?_
      intro _ w S
      refine p_nil (x_then (s_block (s_seq ?_)))
      refine s_cutK (ks := [some b7, k9, some hb, kn]) (ps := [Ex _ _, Rw _ _ _ _ _, Ex _ _, Rw _ _ _ _ _]) [(5, .slice _ _ _), (6, .int _ _), (7, .pointer _), (14, .slice _ _ _), (15, .int _ _), (16, .int _ _)] ⟨rfl, rfl, rfl, rfl, rfl, rfl, trivial⟩ S (fun keep ks ps f' w' => ∃ u bb, f' = upds u ((36, .bool bb) :: keep) ∧ (bb = true ↔ ((ob = true) ∨ (n.k = (1 : Int)))) ∧ St w0 w' (exOf [some hb, kn]) ks ps) ?_ ?_
      · refine s_plain ?_
        refine p_val (e_move (v := .slice _ _ _) rfl) rfl ?_
        refine p_val (e_move (v := .int _ _) rfl) rfl ?_
        refine p_val (e_ixR (S.rdRw 1 rfl rfl) (by decide) rfl rfl Try.underlying105 sz4 (by omega)) rfl ?_
        refine p_valb (e_loadR1i (v := .bool ob) rfl ag4 (S.rdRw 1 rfl rfl) (by rw [hob]; exact bbv_get (by omega))) rfl (fun hg40 => ?_) (fun hg40 => ?_)
        · refine p_val (e_move (v := .bool _) rfl) rfl ?_
          refine p_no rfl rfl rfl rfl rfl ?_
          refine p_no rfl rfl rfl rfl rfl ?_
          refine p_no rfl rfl rfl rfl rfl ?_
          refine p_val (e_pick_t rfl rfl) rfl ?_
          refine p_val (e_assign (v := .bool _) rfl) rfl ?_
          exact p_nil (x_then ⟨_, rfl, _, _, upds_eq ⟨rfl, rfl, rfl, rfl, rfl, rfl, rfl, trivial⟩, by first | (simp only [decide_eq_true_eq, eq_self, true_iff, iff_true, iff_false, Bool.false_eq_true, false_iff, ge_iff_le, gt_iff_lt, true_and, and_true, false_and, and_false, true_or, or_true, false_or, or_false, not_true_eq_false, not_false_eq_true]; omega) | (simp; done) | omega | (simp_all; done), S⟩)
        · refine p_val (e_move (v := .bool _) rfl) rfl ?_
          refine pg_val rfl rfl rfl rfl rfl (e_field rfl Try.underlying40 rfl sz3 (by decide)) ?_
          refine pg_val rfl rfl rfl rfl rfl (e_loadF1 (i := 0) (off := 0) rfl ag3 S (j := 0) rfl rfl rfl (by first | with_reducible assumption | (rw [bv_length]; with_reducible assumption) | (rw [List.size_toArray, bv_length]; with_reducible assumption) | (simp [cat]; done) | (simp [cat]; omega) | rfl)) ?_
          refine pg_val rfl rfl rfl rfl rfl (e_eql rfl rfl) ?_
          refine p_val (e_pick_f rfl rfl) rfl ?_
          refine p_val (e_assign (v := .bool _) rfl) rfl ?_
          exact p_nil (x_then ⟨_, rfl, _, _, upds_eq ⟨rfl, rfl, rfl, rfl, rfl, rfl, rfl, trivial⟩, by first | (simp only [decide_eq_true_eq, eq_self, true_iff, iff_true, iff_false, Bool.false_eq_true, false_iff, ge_iff_le, gt_iff_lt, true_and, and_true, false_and, and_false, true_or, or_true, false_or, or_false, not_true_eq_false, not_false_eq_true]; omega) | (simp; done) | omega | (simp_all; done), S⟩)
      · rintro f w ⟨u, b36, rfl, hb36, S⟩
        refine x_then ?_
        refine s_condb rfl (fun hc36 => ?_) (fun hc36 => ?_)
        · have hp36 : ((ob = true) ∨ (n.k = (1 : Int))) := hb36.1 hc36
          refine s_skip (x_in (x_in ?_))
          exact x_then ⟨_, rfl, _, o, upds_eq ⟨rfl, rfl, rfl, rfl, trivial⟩, hI.keep hat0 (by rw [← hob]; exact hp36), S.pk [1, 2, 3] rfl⟩
        · have hp36 : ¬ ((ob = true) ∨ (n.k = (1 : Int))) := fun h => by rw [hb36.2 h] at hc36; cases hc36
          refine s_seq (s_plain ?_)
          refine p_val (e_field rfl Try.underlying40 rfl sz3 (by decide)) rfl ?_
          refine p_val (e_loadF1 (i := 0) (off := 0) rfl ag3 S (j := 0) rfl rfl rfl (by first | with_reducible assumption | (rw [bv_length]; with_reducible assumption) | (rw [List.size_toArray, bv_length]; with_reducible assumption) | (simp [cat]; done) | (simp [cat]; omega) | rfl)) rfl ?_
          refine p_val (e_eql rfl rfl) rfl ?_
          refine p_val (e_assign (v := .bool _) rfl) rfl ?_
          refine p_nil (x_then ?_)
          refine s_cond rfl (fun hc46 => ?_) (fun hc46 => ?_)
          · refine s_plain ?_
            refine p_val (e_move (v := .slice _ _ _) rfl) rfl ?_
            refine p_val (e_move (v := .int _ _) rfl) rfl ?_
            refine p_val (e_move (v := .slice _ _ _) rfl) rfl ?_
            refine p_val (e_field rfl Try.underlying40 rfl sz3 (by decide)) rfl ?_
            refine p_val (e_loadF1 (i := 1) (off := 1) rfl ag3 S (j := 0) rfl rfl rfl (by first | with_reducible assumption | (rw [bv_length]; with_reducible assumption) | (rw [List.size_toArray, bv_length]; with_reducible assumption) | (simp [cat]; done) | (simp [cat]; omega) | rfl)) rfl ?_
            refine p_val (e_ixR (S.rdRw 1 rfl rfl) (by decide) rfl rfl Try.underlying105 sz4 (by omega)) rfl ?_
            refine p_val (e_loadR1i (v := .bool (o.getD n.a.toNat false)) rfl ag4 (S.rdRw 1 rfl rfl) (bbv_get (by omega))) rfl ?_
            refine p_val (e_ixR (S.rdRw 1 rfl rfl) (by decide) rfl rfl Try.underlying105 sz4 (by omega)) rfl ?_
            refine p_does (d_storeRw1 (v := .bool _) S 1 rfl rfl rfl rfl rfl sz4 (by omega)) rfl ?_
            intro _ w S
            rw [bbv_set] at S
            refine p_nil (x_in (x_in ?_))
            exact x_then ⟨_, rfl, _, o.set g (o.getD n.a.toNat false), upds_eq ⟨rfl, rfl, rfl, rfl, trivial⟩, hI.hash hat0 (by rw [← hob]; exact hp36) hc46 (by omega), S.pk [1, 2, 3] rfl⟩
          · obtain ⟨oa, hoa⟩ : ∃ oa, oa = o.getD n.a.toNat false := ⟨_, rfl⟩
            refine s_cutK (ks := [some b7, k9, some hb, kn]) (ps := [Ex _ _, Rw _ _ _ _ _, Ex _ _, Rw _ _ _ _ _]) [(5, .slice _ _ _), (14, .slice _ _ _), (15, .int _ _), (16, .int _ _)] ⟨rfl, rfl, rfl, rfl, trivial⟩ S (fun keep ks ps f' w' => ∃ u, f' = upds u (keep) ∧ St w0 w' (exOf [some hb, kn]) ks [(ps.getD 0 fun _ => True), Rw 4 1 (0 + B.length) c9 (bbv (o.set g (oa && o.getD n.b.toNat false))), (ps.getD 2 fun _ => True), (ps.getD 3 fun _ => True)]) ?_ ?_
            · refine s_plain ?_
              refine p_val (e_move (v := .slice _ _ _) rfl) rfl ?_
              refine p_val (e_move (v := .int _ _) rfl) rfl ?_
              refine p_val (e_move (v := .slice _ _ _) rfl) rfl ?_
              refine p_val (e_field rfl Try.underlying40 rfl sz3 (by decide)) rfl ?_
              refine p_val (e_loadF1 (i := 1) (off := 1) rfl ag3 S (j := 0) rfl rfl rfl (by first | with_reducible assumption | (rw [bv_length]; with_reducible assumption) | (rw [List.size_toArray, bv_length]; with_reducible assumption) | (simp [cat]; done) | (simp [cat]; omega) | rfl)) rfl ?_
              refine p_val (e_ixR (S.rdRw 1 rfl rfl) (by decide) rfl rfl Try.underlying105 sz4 (by omega)) rfl ?_
              refine p_valb (e_loadR1i (v := .bool oa) rfl ag4 (S.rdRw 1 rfl rfl) (by rw [hoa]; exact bbv_get (by omega))) rfl (fun hg27 => ?_) (fun hg27 => ?_)
              · subst hg27
                refine p_val (e_move (v := .bool _) rfl) rfl ?_
                refine pg_val rfl rfl rfl rfl rfl (e_move (v := .slice _ _ _) rfl) ?_
                refine pg_val rfl rfl rfl rfl rfl (e_field rfl Try.underlying40 rfl sz3 (by decide)) ?_
                refine pg_val rfl rfl rfl rfl rfl (e_loadF1 (i := 2) (off := 2) rfl ag3 S (j := 0) rfl rfl rfl (by first | with_reducible assumption | (rw [bv_length]; with_reducible assumption) | (rw [List.size_toArray, bv_length]; with_reducible assumption) | (simp [cat]; done) | (simp [cat]; omega) | rfl)) ?_
                refine pg_val rfl rfl rfl rfl rfl (e_ixR (S.rdRw 1 rfl rfl) (by decide) rfl rfl Try.underlying105 sz4 (by omega)) ?_
                refine pg_val rfl rfl rfl rfl rfl (e_loadR1i (v := .bool (o.getD n.b.toNat false)) rfl ag4 (S.rdRw 1 rfl rfl) (bbv_get (by omega))) ?_
                refine p_val (e_pick_t rfl rfl) rfl ?_
                refine p_val (e_ixR (S.rdRw 1 rfl rfl) (by decide) rfl rfl Try.underlying105 sz4 (by omega)) rfl ?_
                refine p_does (d_storeRw1 (v := .bool _) S 1 rfl rfl rfl rfl rfl sz4 (by omega)) rfl ?_
                intro _ w S
                rw [bbv_set] at S
                exact p_nil (x_then ⟨_, rfl, _, upds_eq ⟨rfl, rfl, rfl, rfl, trivial⟩, S⟩)
              · subst hg27
                refine p_val (e_move (v := .bool _) rfl) rfl ?_
                refine p_no rfl rfl rfl rfl rfl ?_
                refine p_no rfl rfl rfl rfl rfl ?_
                refine p_no rfl rfl rfl rfl rfl ?_
                refine p_no rfl rfl rfl rfl rfl ?_
                refine p_no rfl rfl rfl rfl rfl ?_
                refine p_val (e_pick_f rfl rfl) rfl ?_
                refine p_val (e_ixR (S.rdRw 1 rfl rfl) (by decide) rfl rfl Try.underlying105 sz4 (by omega)) rfl ?_
                refine p_does (d_storeRw1 (v := .bool _) S 1 rfl rfl rfl rfl rfl sz4 (by omega)) rfl ?_
                intro _ w S
                rw [bbv_set] at S
                exact p_nil (x_then ⟨_, rfl, _, upds_eq ⟨rfl, rfl, rfl, rfl, trivial⟩, S⟩)
            · rintro f w ⟨u, rfl, S⟩
              refine x_in (x_in ?_)
              exact x_then ⟨_, rfl, _, o.set g (oa && o.getD n.b.toNat false), upds_eq ⟨rfl, rfl, rfl, rfl, trivial⟩, by rw [hoa]; exact hI.node hat0 (by rw [← hob]; exact hp36) hc46 (by omega) (by omega), S.pk [1, 2, 3] rfl⟩
    · rintro f w ⟨u, o2, rfl, hI2, S⟩
      refine x_then (s_plain ?_)
      refine p_val (e_add64 rfl rfl (by omega)) rfl ?_
      refine p_val (e_move (v := .int _ _) rfl) rfl ?_
      refine p_nil ?_
      refine x_round (g + 1) _ rfl ⟨_, _, upds_eq ⟨rfl, rfl, rfl, rfl, trivial⟩, by first | omega | rfl | with_reducible assumption | (simp; done) | (simp; omega), by first | omega | rfl | with_reducible assumption | (simp; done) | (simp; omega), S⟩ (by omega)
  · refine s_exit (x_then_exit (x_then_exit (x_in_same (x_then (s_seq (s_plain ?_))))))
    refine p_val (e_move (v := .slice _ _ _) rfl) rfl ?_
    refine p_val (e_assign (v := .slice _ _ _) rfl) rfl ?_
    refine p_nil (x_then (s_ret ?_))
    exact post1 (v := .slice _ _ _) Try.results50 rfl (by obtain rfl : g = B.length := (by omega); refine ⟨k9, c9, o, by rw [Nat.zero_add], hI.1, fun i hi => hI.2.1 i hi, ?_⟩; rw [Nat.zero_add] at S; exact S.pk [0, 1, 2] rfl)
end Go.Proofs.Ytcgcjklpilbndaa
