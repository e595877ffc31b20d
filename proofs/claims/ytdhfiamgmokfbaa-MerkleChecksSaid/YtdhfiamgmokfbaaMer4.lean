/- What the third law's own functions compute, walked. It proves no statement by itself. -/
import Derived.Test.YtdhfiamgmokfbaaMer3
set_option linter.unusedSimpArgs false
set_option linter.unusedVariables false
set_option maxRecDepth 100000
set_option maxHeartbeats 1000000
namespace Go.Proofs.Ytdhfiamgmokfbaa
open Go Go.RowKit E
attribute [local irreducible] wpList seqH treeH
theorem drop_getD {l : List (List Nat)} {g : Nat} (h : g < l.length) : l.drop g = l.getD g [] :: l.drop (g + 1) := by
  rw [List.getD_eq_getElem?_getD, List.getElem?_eq_getElem h]; exact List.drop_eq_getElem_cons h
theorem mroot_one {l : List (List Nat)} (h : l.length = 1) : mroot l = mleaf (l.getD 0 []) := by
  match l, h with
  | [x], _ => unfold mroot; rw [if_neg (by simp)]; show rootI [mleaf x] = _; rw [rootI_one]; rfl
theorem half_of {n g : Nat} (h : hb n g = half n) (h1 : ¬ 2 * g < n) : half n = g := by
  rw [← h, hb, dif_neg (fun h' => h1 h'.2)]
theorem hb_next {n g : Nat} (h0 : 0 < g) (h1 : 2 * g < n) : hb n (g * 2) = hb n g := by
  rw [Nat.mul_comm]; conv => rhs; rw [hb, dif_pos ⟨h0, h1⟩]
theorem mroot_rec {l : List (List Nat)} (h : 0 < l.length) : mroot l = rec_ (l.map mleaf) := by
  unfold mroot; rw [if_neg (by omega), rootI_rec]
theorem mroot_two {l : List (List Nat)} (h : 2 ≤ l.length) : mroot l = mpair (mroot (l.take (half l.length))) (mroot (l.drop (half l.length))) := by
  have hl := half_lt h
  rw [mroot_rec (by omega), mroot_rec (l := l.take _) (by rw [List.length_take]; omega), mroot_rec (l := l.drop _) (by rw [List.length_drop]; omega), rec_two (by rw [List.length_map]; omega), List.length_map, List.map_take, List.map_drop]
def mrecP (l : List (List Nat)) (a : Nat) : List (List Nat) := recP (l.map mleaf) a
theorem mrecP_one {l : List (List Nat)} (h : l.length < 2) (a : Nat) : mrecP l a = [] := recP_one (by rw [List.length_map]; omega) a
theorem mrecP_lo {l : List (List Nat)} {a : Nat} (h : 2 ≤ l.length) (ha : a < half l.length) : mrecP l a = mrecP (l.take (half l.length)) a ++ [mroot (l.drop (half l.length))] := by
  have hl := half_lt h
  unfold mrecP
  rw [recP_two (by rw [List.length_map]; omega), List.length_map, if_pos ha, mroot_rec (by rw [List.length_drop]; omega), List.map_take, List.map_drop]
theorem mrecP_hi {l : List (List Nat)} {a : Nat} (h : 2 ≤ l.length) (ha : ¬ a < half l.length) : mrecP l a = mrecP (l.drop (half l.length)) (a - half l.length) ++ [mroot (l.take (half l.length))] := by
  have hl := half_lt h
  unfold mrecP
  rw [recP_two (by rw [List.length_map]; omega), List.length_map, if_neg ha, mroot_rec (by rw [List.length_take]; omega), List.map_take, List.map_drop]
theorem mrecP_all : ∀ (m : Nat) (l : List (List Nat)) (a : Nat), l.length = m → All32 (mrecP l a) := by
  intro m
  induction m using Nat.strongRecOn with
  | _ m ih =>
    intro l a hm
    by_cases h : l.length < 2
    · rw [mrecP_one h]; intro x hx; simp at hx
    · have hl := half_lt (n := l.length) (by omega)
      by_cases ha : a < half l.length
      · rw [mrecP_lo (by omega) ha]
        exact (ih _ (by rw [List.length_take]; omega) (l.take _) a rfl).append (All32.single (length_mroot _))
      · rw [mrecP_hi (by omega) ha]
        exact (ih _ (by rw [List.length_drop]; omega) (l.drop _) _ rfl).append (All32.single (length_mroot _))
theorem mrecP_len : ∀ (m : Nat) (l : List (List Nat)) (a : Nat), l.length = m → (mrecP l a).length ≤ l.length := by
  intro m
  induction m using Nat.strongRecOn with
  | _ m ih =>
    intro l a hm
    by_cases h : l.length < 2
    · rw [mrecP_one h]; simp
    · have hl := half_lt (n := l.length) (by omega)
      have e1 : (l.take (half l.length)).length = half l.length := by rw [List.length_take]; omega
      have e2 : (l.drop (half l.length)).length = l.length - half l.length := List.length_drop
      by_cases ha : a < half l.length
      · have := ih _ (by omega) (l.take _) a e1
        rw [mrecP_lo (by omega) ha, List.length_append]; simp only [List.length_cons, List.length_nil]; omega
      · have := ih _ (by omega) (l.drop _) (a - half l.length) e2
        rw [mrecP_hi (by omega) ha, List.length_append]; simp only [List.length_cons, List.length_nil]; omega
theorem l3few (w0 : World) (A : Option Addr) (c : Nat) (L : List (List Nat)) (hn : L.length ≤ c) :
    Ret Try.prog 37 [.slice A L.length c] w0 fun v w' => v = .slice A (L.take 40).length c ∧ Below w0.heap.size w0 w' := by
  refine enter Try.func37 rfl Try.ntmps37 (Nat.le_of_ble_eq_true rfl) ?_
  have S := St.init w0
  refine s_seq (s_plain ?_)
  refine p_val (e_assign (v := .slice _ _ _) rfl) rfl ?_
  refine p_nil (x_then (s_seq (s_seq (s_plain ?_))))
  refine p_val (e_move (v := .slice _ _ _) rfl) rfl ?_
  refine p_val (e_len rfl Try.underlying24) rfl ?_
  refine p_val (e_gtr rfl rfl) rfl ?_
  refine p_nil (x_then ?_)
  refine s_cond rfl (fun hc5 => ?_) (fun hc5 => ?_)
  · refine s_seq (s_plain ?_)
    refine p_val (e_move (v := .slice _ _ _) rfl) rfl ?_
    refine p_val (e_sl_h (40) rfl rfl (rfl) (by omega) Try.underlying24 sz29) rfl ?_
    refine p_val (e_assign (v := .slice _ _ _) rfl) rfl ?_
    refine p_nil (x_then (s_ret (x_then_ret ?_)))
    exact post1 (v := .slice _ _ _) Try.results37 rfl (⟨by rw [List.length_take]; congr 1; omega, S.to_below⟩)
  · refine s_skip (x_then (s_seq (s_plain ?_)))
    refine p_val (e_move (v := .slice _ _ _) rfl) rfl ?_
    refine p_val (e_assign (v := .slice _ _ _) rfl) rfl ?_
    refine p_nil (x_then (s_ret ?_))
    exact post1 (v := .slice _ _ _) Try.results37 rfl (⟨by rw [List.length_take]; congr 1; omega, S.to_below⟩)
theorem l3root_s (q : Nat) (ih : ∀ (w0 : World) (A : Option Addr) (n c : Nat) (L : List (List Nat)) (R : Rd w0 32 A n (sv L)) (hL : All32 L) (hl : L.length = n) (cR : n ≤ c) (hn : n ≤ 1000000) (hq : n < q), Ret Try.prog 43 [.slice A n c] w0 fun v w' => v = .agg (bv (mroot L)).toArray ∧ Below w0.heap.size w0 w') (w0 : World) (A : Option Addr) (c : Nat) (L : List (List Nat)) (R : Rd w0 32 A L.length (sv L)) (hL : All32 L) (cR : L.length ≤ c) (hn : L.length ≤ 1000000) (hq : L.length = q) :
    Ret Try.prog 43 [.slice A L.length c] w0 fun v w' => v = .agg (bv (mroot L)).toArray ∧ Below w0.heap.size w0 w' := by
  refine enter Try.func43 rfl Try.ntmps43 (Nat.le_of_ble_eq_true rfl) ?_
  have S := St.init w0
  refine s_seq (s_plain ?_)
  refine p_does (d_allocA S zvS) rfl ?_
  rintro _ w ⟨b2, rfl, S⟩
  refine p_nil (x_then (s_seq (s_seq (s_plain ?_))))
  refine p_val (e_move (v := .slice _ _ _) rfl) rfl ?_
  refine p_val (e_len rfl Try.underlying24) rfl ?_
  refine p_val (e_eql rfl rfl) rfl ?_
  refine p_nil (x_then ?_)
  refine s_cond rfl (fun hc6 => ?_) (fun hc6 => ?_)
  · refine s_seq (s_plain ?_)
    refine p_does (d_call Try.func19 nm19 rfl rfl (join_calls _ 3 none 0 [] Parts.zero (by simp [joinB]) (by simp))) rfl ?_
    rintro _ w ⟨rfl, hB⟩
    have S := S.below hB
    refine p_does (d_storeW S 0 rfl rfl (by first | exact bv_one _ | exact sv_one _ | exact iv_one _ | with_reducible assumption | (refine One.mem ?_; repeat (first | exact One.bv _ | exact One.sv _ | exact One.iv _ | exact One.nil | exact One.cat0 | refine One.cat1 ?_ ?_ | refine One.cons rfl ?_ | refine One.append ?_ ?_))) sz29 (by first | with_reducible assumption | (rw [bv_length]; with_reducible assumption) | (rw [List.size_toArray, bv_length]; with_reducible assumption) | (simp [cat, length_join, length_mroot, length_mleaf, length_zsum]; done) | (simp [cat, length_join, length_mroot, length_mleaf, length_zsum]; omega) | rfl) rfl rfl (by first | with_reducible assumption | (rw [bv_length]; with_reducible assumption) | (rw [List.size_toArray, bv_length]; with_reducible assumption) | (simp [cat, length_join, length_mroot, length_mleaf, length_zsum]; done) | (simp [cat, length_join, length_mroot, length_mleaf, length_zsum]; omega) | rfl)) rfl ?_
    intro _ w S
    refine p_nil (x_then (s_ret (x_then_ret ?_)))
    exact postC Try.results43 S 0 rfl rfl rfl ag29 sz29 (by first | with_reducible assumption | (rw [bv_length]; with_reducible assumption) | (rw [List.size_toArray, bv_length]; with_reducible assumption) | (simp [cat, length_join, length_mroot, length_mleaf, length_zsum]; done) | (simp [cat, length_join, length_mroot, length_mleaf, length_zsum]; omega) | rfl) (⟨by unfold mroot; rw [if_pos (by omega)], S.to_below⟩)
  · refine s_skip (x_then (s_seq (s_seq (s_plain ?_))))
    refine p_val (e_move (v := .slice _ _ _) rfl) rfl ?_
    refine p_val (e_len rfl Try.underlying24) rfl ?_
    refine p_val (e_eql rfl rfl) rfl ?_
    refine p_nil (x_then ?_)
    refine s_cond rfl (fun hc10 => ?_) (fun hc10 => ?_)
    · refine s_seq (s_plain ?_)
      have h0 : (L.getD (0 : Int).toNat []).length = 32 := hL.getD (by simp; omega)
      refine p_val (e_move (v := .slice _ _ _) rfl) rfl ?_
      refine p_val (e_ixR (S.rdOld R rfl) (by decide) rfl rfl Try.underlying24 sz29 (by omega)) rfl ?_
      refine p_val (e_loadRA rfl ag29 sz29 (by decide) (Rd.sumA (S.rdOld R rfl) (by with_reducible assumption) (by omega))) rfl ?_
      refine p_does (d_call Try.func45 nm45 rfl rfl (l3leaf _ _ h0)) rfl ?_
      rintro _ w ⟨rfl, hB⟩
      have S := S.below hB
      refine p_does (d_storeW S 0 rfl rfl (by first | exact bv_one _ | exact sv_one _ | exact iv_one _ | with_reducible assumption | (refine One.mem ?_; repeat (first | exact One.bv _ | exact One.sv _ | exact One.iv _ | exact One.nil | exact One.cat0 | refine One.cat1 ?_ ?_ | refine One.cons rfl ?_ | refine One.append ?_ ?_))) sz29 (by first | with_reducible assumption | (rw [bv_length]; with_reducible assumption) | (rw [List.size_toArray, bv_length]; with_reducible assumption) | (simp [cat, length_join, length_mroot, length_mleaf, length_zsum]; done) | (simp [cat, length_join, length_mroot, length_mleaf, length_zsum]; omega) | rfl) rfl rfl (by first | with_reducible assumption | (rw [bv_length]; with_reducible assumption) | (rw [List.size_toArray, bv_length]; with_reducible assumption) | (simp [cat, length_join, length_mroot, length_mleaf, length_zsum]; done) | (simp [cat, length_join, length_mroot, length_mleaf, length_zsum]; omega) | rfl)) rfl ?_
      intro _ w S
      refine p_nil (x_then (s_ret (x_then_ret ?_)))
      exact postC Try.results43 S 0 rfl rfl rfl ag29 sz29 (by first | with_reducible assumption | (rw [bv_length]; with_reducible assumption) | (rw [List.size_toArray, bv_length]; with_reducible assumption) | (simp [cat, length_join, length_mroot, length_mleaf, length_zsum]; done) | (simp [cat, length_join, length_mroot, length_mleaf, length_zsum]; omega) | rfl) (⟨by rw [mroot_one (by omega)]; rfl, S.to_below⟩)
    · refine s_skip (x_then (s_seq (s_plain ?_)))
      refine p_val (e_assign (v := .int _ _) rfl) rfl ?_
      refine p_nil (x_then (s_seq (s_block ?_)))
      refine s_loopK (α := Nat) (ks := [some b2]) (ps := [Ex _ _]) [(0, .slice _ _ _), (2, .pointer _)] ⟨rfl, rfl, trivial⟩ S (fun keep ks ps g f' w' => ∃ u, f' = upds u ((3, .int .i64 (g : Int)) :: keep) ∧ (1 ≤ g) ∧ (g < L.length) ∧ (hb L.length g = half L.length) ∧ St w0 w' [] [some b2] [(ps.getD 0 fun _ => True)]) (fun g => L.length - g) (1) (⟨_, upds_eq ⟨rfl, rfl, rfl, trivial⟩, by first | omega | rfl | with_reducible assumption | (simp; done) | (simp; omega), by first | omega | rfl | with_reducible assumption | (simp; done) | (simp; omega), by first | omega | rfl | with_reducible assumption | (simp; done) | (simp; omega), S⟩) ?_
      rintro g f w ⟨u, rfl, h1, hg, hk, S⟩
      refine s_seq (s_seq (s_plain ?_))
      refine p_val (e_move (v := .int _ _) rfl) rfl ?_
      refine p_val (e_mul64 rfl rfl (by omega)) rfl ?_
      refine p_val (e_move (v := .slice _ _ _) rfl) rfl ?_
      refine p_val (e_len rfl Try.underlying24) rfl ?_
      refine p_val (e_lss rfl rfl) rfl ?_
      refine p_nil (x_then ?_)
      refine s_cond rfl (fun hc19 => ?_) (fun hc19 => ?_)
      · refine s_skip (x_then (s_block (s_plain ?_)))
        refine p_val (e_move (v := .int _ _) rfl) rfl ?_
        refine p_val (e_mul64 rfl rfl (by omega)) rfl ?_
        refine p_val (e_assign (v := .int _ _) rfl) rfl ?_
        refine p_nil (x_in ?_)
        refine x_round (g * 2) _ rfl ⟨_, upds_eq ⟨rfl, rfl, rfl, trivial⟩, by first | omega | rfl | with_reducible assumption | (simp; done) | (simp; omega), by first | omega | rfl | with_reducible assumption | (simp; done) | (simp; omega), by rw [hb_next (by omega) (by omega)]; exact hk, S⟩ (by omega)
      · refine s_exit (x_then_exit (x_then_exit (x_in_same (x_then (s_seq ?_)))))
        refine s_drawZ [(true, 0), (true, 1), (true, 2), (true, 4), (true, 5), (true, 6), (false, 3), (false, 7), (false, 8)] [9] [9] (fun _ => True) mixed (by kernel_rfl) (by repeat (first | exact Calm.post _ _ _ | refine Calm.then ?_ _ | refine Calm.inB ?_ _)) ?_
        have hS : True := trivial
        have S := S.drew
        have hh : half L.length = g := half_of hk (by omega)
        have e1 : (L.take g).length = g := by rw [List.length_take]; omega
        have e2 : (L.drop g).length = L.length - g := List.length_drop
        refine q_val (fun w hS => e_move (v := .slice _ _ _) rfl) rfl hS ?_
        refine q_val (fun w hS => e_move (v := .int _ _) rfl) rfl hS ?_
        refine q_val (fun w hS => e_sl_h (g) rfl rfl (rfl) (by omega) Try.underlying24 sz29) rfl hS ?_
        refine q_val (fun w hS => e_move (v := .slice _ _ _) rfl) rfl hS ?_
        refine q_val (fun w hS => e_move (v := .int _ _) rfl) rfl hS ?_
        refine q_val (fun w hS => e_sl_l (g) rfl rfl (rfl) (by omega) Try.underlying24 sz29) rfl hS ?_
        refine q_does (d_call Try.func43 nm43 rfl rfl (ih _ _ _ _ _ (Rd.take_sv hL (S.rdOld R rfl) (by omega)) (hL.take g) e1 (by omega) (by omega) (by omega))) rfl ?_
        rintro _ w ⟨rfl, hB⟩
        have S := S.below hB
        have hS := trivial
        refine ⟨hS, ?_⟩
        refine q_does (d_call Try.func43 nm43 rfl rfl (ih _ _ _ _ _ (Rd.drop_sv hL (S.rdOld R rfl) (by omega) cR) (hL.drop g) e2 (by omega) (by omega) (by omega))) rfl ?_
        rintro _ w ⟨rfl, hB⟩
        have S := S.below hB
        have hS := trivial
        refine ⟨hS, ?_⟩
        refine q_does (d_call Try.func85 nm85 rfl rfl (pair_calls _ _ _ _ (by first | with_reducible assumption | (rw [bv_length]; with_reducible assumption) | (rw [List.size_toArray, bv_length]; with_reducible assumption) | (simp [cat, length_join, length_mroot, length_mleaf, length_zsum]; done) | (simp [cat, length_join, length_mroot, length_mleaf, length_zsum]; omega) | rfl) (by first | with_reducible assumption | (rw [bv_length]; with_reducible assumption) | (rw [List.size_toArray, bv_length]; with_reducible assumption) | (simp [cat, length_join, length_mroot, length_mleaf, length_zsum]; done) | (simp [cat, length_join, length_mroot, length_mleaf, length_zsum]; omega) | rfl))) rfl ?_
        rintro _ w ⟨rfl, hB⟩
        have S := S.below hB
        have hS := trivial
        refine ⟨hS, ?_⟩
        refine q_nil ?_
        refine p_does (d_storeW S 0 rfl rfl (by first | exact bv_one _ | exact sv_one _ | exact iv_one _ | with_reducible assumption | (refine One.mem ?_; repeat (first | exact One.bv _ | exact One.sv _ | exact One.iv _ | exact One.nil | exact One.cat0 | refine One.cat1 ?_ ?_ | refine One.cons rfl ?_ | refine One.append ?_ ?_))) sz29 (by first | with_reducible assumption | (rw [bv_length]; with_reducible assumption) | (rw [List.size_toArray, bv_length]; with_reducible assumption) | (simp [cat, length_join, length_mroot, length_mleaf, length_zsum]; done) | (simp [cat, length_join, length_mroot, length_mleaf, length_zsum]; omega) | rfl) rfl rfl (by first | with_reducible assumption | (rw [bv_length]; with_reducible assumption) | (rw [List.size_toArray, bv_length]; with_reducible assumption) | (simp [cat, length_join, length_mroot, length_mleaf, length_zsum]; done) | (simp [cat, length_join, length_mroot, length_mleaf, length_zsum]; omega) | rfl)) rfl ?_
        intro _ w S
        refine p_nil (x_then (s_ret ?_))
        exact postC Try.results43 S 0 rfl rfl rfl ag29 sz29 (by first | with_reducible assumption | (rw [bv_length]; with_reducible assumption) | (rw [List.size_toArray, bv_length]; with_reducible assumption) | (simp [cat, length_join, length_mroot, length_mleaf, length_zsum]; done) | (simp [cat, length_join, length_mroot, length_mleaf, length_zsum]; omega) | rfl) (⟨by rw [mroot_two (l := L) (by omega), hh]; rfl, S.to_below⟩)
theorem l3root_n : ∀ (q : Nat) (w0 : World) (A : Option Addr) (n c : Nat) (L : List (List Nat)) (R : Rd w0 32 A n (sv L)) (hL : All32 L) (hl : L.length = n) (cR : n ≤ c) (hn : n ≤ 1000000) (hq : n = q), Ret Try.prog 43 [.slice A n c] w0 fun v w' => v = .agg (bv (mroot L)).toArray ∧ Below w0.heap.size w0 w' := by
  intro q
  induction q using Nat.strongRecOn with
  | _ q ih =>
    intro w0 A n c L R hL hl cR hn hq
    subst hl
    exact l3root_s q (fun w0 A n c L R hL hl cR hn hq => ih n hq w0 A n c L R hL hl cR hn rfl) w0 A c L R hL cR hn hq
theorem l3root (w0 : World) (A : Option Addr) (n c : Nat) (L : List (List Nat)) (R : Rd w0 32 A n (sv L)) (hL : All32 L) (hl : L.length = n) (cR : n ≤ c) (hn : n ≤ 1000000) : Ret Try.prog 43 [.slice A n c] w0 fun v w' => v = .agg (bv (mroot L)).toArray ∧ Below w0.heap.size w0 w' := l3root_n n w0 A n c L R hL hl cR hn rfl
theorem l3path_s (q : Nat) (ih : ∀ (w0 : World) (ai : Int) (a : Nat) (hai : ai = (a : Int)) (A : Option Addr) (n c : Nat) (L : List (List Nat)) (R : Rd w0 32 A n (sv L)) (hL : All32 L) (hl : L.length = n) (cR : n ≤ c) (hn : n ≤ 1000000) (ha : a < n) (hq : n < q), Ret Try.prog 47 [.slice A n c, .int .i64 ai] w0 fun v w' => ∃ k c2, v = .slice (at_ k) (mrecP L a).length c2 ∧ St w0 w' [] [k] [Rw 29 32 (mrecP L a).length c2 (sv (mrecP L a))]) (w0 : World) (a : Nat) (A : Option Addr) (c : Nat) (L : List (List Nat)) (R : Rd w0 32 A L.length (sv L)) (hL : All32 L) (cR : L.length ≤ c) (hn : L.length ≤ 1000000) (ha : a < L.length) (hq : L.length = q) :
    Ret Try.prog 47 [.slice A L.length c, .int .i64 (a : Int)] w0 fun v w' => ∃ k c2, v = .slice (at_ k) (mrecP L a).length c2 ∧ St w0 w' [] [k] [Rw 29 32 (mrecP L a).length c2 (sv (mrecP L a))] := by
  refine enter Try.func47 rfl Try.ntmps47 (Nat.le_of_ble_eq_true rfl) ?_
  have S := St.init w0
  refine s_seq (s_plain ?_)
  refine p_val (e_assign (v := .slice _ _ _) rfl) rfl ?_
  refine p_nil (x_then (s_seq (s_seq (s_plain ?_))))
  refine p_val (e_move (v := .slice _ _ _) rfl) rfl ?_
  refine p_val (e_len rfl Try.underlying24) rfl ?_
  refine p_val (e_lss rfl rfl) rfl ?_
  refine p_nil (x_then ?_)
  refine s_cond rfl (fun hc8 => ?_) (fun hc8 => ?_)
  · refine s_seq (s_plain ?_)
    refine p_val (e_assign (v := .slice _ _ _) rfl) rfl ?_
    refine p_nil (x_then (s_ret (x_then_ret ?_)))
    exact post1 (v := .slice _ _ _) Try.results47 rfl (by rw [mrecP_one (by omega)]; exact ⟨none, 0, rfl, S.none_.addNil 29 32⟩)
  · refine s_skip (x_then (s_seq (s_plain ?_)))
    refine p_val (e_assign (v := .int _ _) rfl) rfl ?_
    refine p_nil (x_then (s_seq (s_block ?_)))
    refine s_loopK (α := Nat) (ks := []) (ps := []) [(0, .slice _ _ _), (1, .int _ _)] ⟨rfl, rfl, trivial⟩ S (fun keep ks ps g f' w' => ∃ u, f' = upds u ((5, .int .i64 (g : Int)) :: keep) ∧ (1 ≤ g) ∧ (g < L.length) ∧ (hb L.length g = half L.length) ∧ St w0 w' [] [] []) (fun g => L.length - g) (1) (⟨_, upds_eq ⟨rfl, rfl, rfl, trivial⟩, by first | omega | rfl | with_reducible assumption | (simp; done) | (simp; omega), by first | omega | rfl | with_reducible assumption | (simp; done) | (simp; omega), by first | omega | rfl | with_reducible assumption | (simp; done) | (simp; omega), S⟩) ?_
    rintro g f w ⟨u, rfl, h1, hg, hk, S⟩
    refine s_seq (s_seq (s_plain ?_))
    refine p_val (e_move (v := .int _ _) rfl) rfl ?_
    refine p_val (e_mul64 rfl rfl (by omega)) rfl ?_
    refine p_val (e_move (v := .slice _ _ _) rfl) rfl ?_
    refine p_val (e_len rfl Try.underlying24) rfl ?_
    refine p_val (e_lss rfl rfl) rfl ?_
    refine p_nil (x_then ?_)
    refine s_cond rfl (fun hc13 => ?_) (fun hc13 => ?_)
    · refine s_skip (x_then (s_block (s_plain ?_)))
      refine p_val (e_move (v := .int _ _) rfl) rfl ?_
      refine p_val (e_mul64 rfl rfl (by omega)) rfl ?_
      refine p_val (e_assign (v := .int _ _) rfl) rfl ?_
      refine p_nil (x_in ?_)
      refine x_round (g * 2) _ rfl ⟨_, upds_eq ⟨rfl, rfl, rfl, trivial⟩, by first | omega | rfl | with_reducible assumption | (simp; done) | (simp; omega), by first | omega | rfl | with_reducible assumption | (simp; done) | (simp; omega), by rw [hb_next (by omega) (by omega)]; exact hk, S⟩ (by omega)
    · refine s_exit (x_then_exit (x_then_exit (x_in_same (x_then (s_seq (s_seq (s_plain ?_)))))))
      have hh : half L.length = g := half_of hk (by omega)
      have e1 : (L.take g).length = g := by rw [List.length_take]; omega
      have e2 : (L.drop g).length = L.length - g := List.length_drop
      refine p_val (e_move (v := .int _ _) rfl) rfl ?_
      refine p_val (e_move (v := .int _ _) rfl) rfl ?_
      refine p_val (e_lss rfl rfl) rfl ?_
      refine p_nil (x_then ?_)
      refine s_cond rfl (fun hc18 => ?_) (fun hc18 => ?_)
      · refine s_seq ?_
        refine s_drawZ [(true, 0), (true, 1), (true, 2), (true, 3), (true, 5), (true, 6), (true, 7), (false, 4), (false, 8), (false, 9), (false, 10)] [11] [11] (fun _ => True) mixed (by kernel_rfl) (by repeat (first | exact Calm.post _ _ _ | refine Calm.then ?_ _ | refine Calm.inB ?_ _)) ?_
        have hS : True := trivial
        have S := S.drew
        refine q_val (fun w hS => e_move (v := .slice _ _ _) rfl) rfl hS ?_
        refine q_val (fun w hS => e_move (v := .int _ _) rfl) rfl hS ?_
        refine q_val (fun w hS => e_sl_h (g) rfl rfl (rfl) (by omega) Try.underlying24 sz29) rfl hS ?_
        refine q_val (fun w hS => e_move (v := .int _ _) rfl) rfl hS ?_
        refine q_val (fun w hS => e_move (v := .slice _ _ _) rfl) rfl hS ?_
        refine q_val (fun w hS => e_move (v := .int _ _) rfl) rfl hS ?_
        refine q_val (fun w hS => e_sl_l (g) rfl rfl (rfl) (by omega) Try.underlying24 sz29) rfl hS ?_
        have hpl : (mrecP (L.take g) a).length ≤ 1000000 := by { have := mrecP_len _ (L.take g) a rfl; omega }
        refine q_does (d_call Try.func47 nm47 rfl rfl (ih _ _ a rfl _ _ _ _ (Rd.take_sv hL (S.rdOld R rfl) (by omega)) (hL.take g) e1 (by omega) (by omega) (by omega) (by omega))) rfl ?_
        rintro _ w ⟨k23, c23, rfl, T⟩
        have S := S.merge T rfl
        have hS := trivial
        refine ⟨hS, ?_⟩
        refine q_does (d_call Try.func43 nm43 rfl rfl (l3root _ _ _ _ _ (Rd.drop_sv hL (S.rdOld R rfl) (by omega) cR) (hL.drop g) e2 (by omega) (by omega))) rfl ?_
        rintro _ w ⟨rfl, hB⟩
        have S := S.below hB
        have hS := trivial
        refine ⟨hS, ?_⟩
        refine q_does (d_litS S Try.underlying24 sz29 zv29 rfl (L := [_]) rfl rfl (by intro x hx; simp at hx; simp [hx, length_join, length_mroot, length_mleaf, length_zsum]) (by decide)) rfl ?_
        rintro _ w ⟨b28, rfl, S⟩
        have hS := trivial
        refine ⟨hS, ?_⟩
        refine q_does (d_append S 1 rfl rfl Try.underlying24 el29 rfl rfl (S.rdRw 0 rfl rfl) (by first | exact bv_one _ | exact sv_one _ | exact iv_one _ | with_reducible assumption | (refine One.mem ?_; repeat (first | exact One.bv _ | exact One.sv _ | exact One.iv _ | exact One.nil | exact One.cat0 | refine One.cat1 ?_ ?_ | refine One.cons rfl ?_ | refine One.append ?_ ?_))) (by first | omega | (simp only [List.length_append, List.length_cons, List.length_nil, bv_length, length_join, length_mroot, length_mleaf, length_zsum]; omega) | (simp [cat, length_join, length_mroot, length_mleaf, length_zsum]; omega)) (by unfold maxLen; first | omega | (simp only [List.length_append, List.length_cons, List.length_nil, bv_length, length_join, length_mroot, length_mleaf, length_zsum]; omega))) rfl ?_
        rintro _ w ⟨k29, c29, rfl, S⟩
        have hS := trivial
        refine ⟨hS, ?_⟩
        refine q_nil ?_
        refine p_val (e_assign (v := .slice _ _ _) rfl) rfl ?_
        refine p_nil (x_then (s_ret (x_then_ret ?_)))
        exact post1 (v := .slice _ _ _) Try.results47 rfl (by rw [mrecP_lo (l := L) (a := a) (by omega) (by omega), hh]; exact ⟨_, _, by rw [List.length_append]; rfl, by rw [List.length_append, sv_append]; exact S.pk [1] rfl⟩)
      · refine s_skip (x_then (s_seq ?_))
        refine s_drawZ [(true, 0), (true, 1), (true, 2), (true, 3), (true, 4), (true, 5), (true, 7), (true, 8), (true, 9), (false, 6), (false, 10), (false, 11), (false, 12)] [13] [13] (fun _ => True) mixed (by kernel_rfl) (by repeat (first | exact Calm.post _ _ _ | refine Calm.then ?_ _ | refine Calm.inB ?_ _)) ?_
        have hS : True := trivial
        have S := S.drew
        refine q_val (fun w hS => e_move (v := .slice _ _ _) rfl) rfl hS ?_
        refine q_val (fun w hS => e_move (v := .int _ _) rfl) rfl hS ?_
        refine q_val (fun w hS => e_sl_l (g) rfl rfl (rfl) (by omega) Try.underlying24 sz29) rfl hS ?_
        refine q_val (fun w hS => e_move (v := .int _ _) rfl) rfl hS ?_
        refine q_val (fun w hS => e_move (v := .int _ _) rfl) rfl hS ?_
        refine q_val (fun w hS => e_sub64 rfl rfl (by omega)) rfl hS ?_
        refine q_val (fun w hS => e_move (v := .slice _ _ _) rfl) rfl hS ?_
        refine q_val (fun w hS => e_move (v := .int _ _) rfl) rfl hS ?_
        refine q_val (fun w hS => e_sl_h (g) rfl rfl (rfl) (by omega) Try.underlying24 sz29) rfl hS ?_
        have hpl : (mrecP (L.drop g) (a - g)).length ≤ 1000000 := by { have := mrecP_len _ (L.drop g) (a - g) rfl; omega }
        refine q_does (d_call Try.func47 nm47 rfl rfl (ih _ _ (a - g) (by omega) _ _ _ _ (Rd.drop_sv hL (S.rdOld R rfl) (by omega) cR) (hL.drop g) e2 (by omega) (by omega) (by omega) (by omega))) rfl ?_
        rintro _ w ⟨k36, c36, rfl, T⟩
        have S := S.merge T rfl
        have hS := trivial
        refine ⟨hS, ?_⟩
        refine q_does (d_call Try.func43 nm43 rfl rfl (l3root _ _ _ _ _ (Rd.take_sv hL (S.rdOld R rfl) (by omega)) (hL.take g) e1 (by omega) (by omega))) rfl ?_
        rintro _ w ⟨rfl, hB⟩
        have S := S.below hB
        have hS := trivial
        refine ⟨hS, ?_⟩
        refine q_does (d_litS S Try.underlying24 sz29 zv29 rfl (L := [_]) rfl rfl (by intro x hx; simp at hx; simp [hx, length_join, length_mroot, length_mleaf, length_zsum]) (by decide)) rfl ?_
        rintro _ w ⟨b41, rfl, S⟩
        have hS := trivial
        refine ⟨hS, ?_⟩
        refine q_does (d_append S 1 rfl rfl Try.underlying24 el29 rfl rfl (S.rdRw 0 rfl rfl) (by first | exact bv_one _ | exact sv_one _ | exact iv_one _ | with_reducible assumption | (refine One.mem ?_; repeat (first | exact One.bv _ | exact One.sv _ | exact One.iv _ | exact One.nil | exact One.cat0 | refine One.cat1 ?_ ?_ | refine One.cons rfl ?_ | refine One.append ?_ ?_))) (by first | omega | (simp only [List.length_append, List.length_cons, List.length_nil, bv_length, length_join, length_mroot, length_mleaf, length_zsum]; omega) | (simp [cat, length_join, length_mroot, length_mleaf, length_zsum]; omega)) (by unfold maxLen; first | omega | (simp only [List.length_append, List.length_cons, List.length_nil, bv_length, length_join, length_mroot, length_mleaf, length_zsum]; omega))) rfl ?_
        rintro _ w ⟨k42, c42, rfl, S⟩
        have hS := trivial
        refine ⟨hS, ?_⟩
        refine q_nil ?_
        refine p_val (e_assign (v := .slice _ _ _) rfl) rfl ?_
        refine p_nil (x_then (s_ret ?_))
        exact post1 (v := .slice _ _ _) Try.results47 rfl (by rw [mrecP_hi (l := L) (a := a) (by omega) (by omega), hh]; exact ⟨_, _, by rw [List.length_append]; rfl, by rw [List.length_append, sv_append]; exact S.pk [1] rfl⟩)
theorem l3path_n : ∀ (q : Nat) (w0 : World) (ai : Int) (a : Nat) (hai : ai = (a : Int)) (A : Option Addr) (n c : Nat) (L : List (List Nat)) (R : Rd w0 32 A n (sv L)) (hL : All32 L) (hl : L.length = n) (cR : n ≤ c) (hn : n ≤ 1000000) (ha : a < n) (hq : n = q), Ret Try.prog 47 [.slice A n c, .int .i64 ai] w0 fun v w' => ∃ k c2, v = .slice (at_ k) (mrecP L a).length c2 ∧ St w0 w' [] [k] [Rw 29 32 (mrecP L a).length c2 (sv (mrecP L a))] := by
  intro q
  induction q using Nat.strongRecOn with
  | _ q ih =>
    intro w0 ai a hai A n c L R hL hl cR hn ha hq
    subst hl
    subst hai
    exact l3path_s q (fun w0 ai a hai A n c L R hL hl cR hn ha hq => ih n hq w0 ai a hai A n c L R hL hl cR hn ha rfl) w0 a A c L R hL cR hn ha hq
theorem l3path (w0 : World) (ai : Int) (a : Nat) (hai : ai = (a : Int)) (A : Option Addr) (n c : Nat) (L : List (List Nat)) (R : Rd w0 32 A n (sv L)) (hL : All32 L) (hl : L.length = n) (cR : n ≤ c) (hn : n ≤ 1000000) (ha : a < n) : Ret Try.prog 47 [.slice A n c, .int .i64 ai] w0 fun v w' => ∃ k c2, v = .slice (at_ k) (mrecP L a).length c2 ∧ St w0 w' [] [k] [Rw 29 32 (mrecP L a).length c2 (sv (mrecP L a))] := l3path_n n w0 ai a hai A n c L R hL hl cR hn ha rfl
theorem l3same (w0 : World) (A A2 : Option Addr) (c c2 : Nat) (L M : List (List Nat)) (R : Rd w0 32 A L.length (sv L)) (hL : All32 L) (R2 : Rd w0 32 A2 M.length (sv M)) (hM : All32 M) (hn : L.length ≤ 1000000) :
    Ret Try.prog 46 [.slice A L.length c, .slice A2 M.length c2] w0 fun v w' => v = .bool (decide (L = M)) ∧ Below w0.heap.size w0 w' := by
  refine enter Try.func46 rfl Try.ntmps46 (Nat.le_of_ble_eq_true rfl) ?_
  have S := St.init w0
  refine s_seq (s_plain ?_)
  refine p_val (e_assign (v := .bool _) rfl) rfl ?_
  refine p_nil (x_then (s_seq (s_seq (s_plain ?_))))
  refine p_val (e_move (v := .slice _ _ _) rfl) rfl ?_
  refine p_val (e_len rfl Try.underlying24) rfl ?_
  refine p_val (e_move (v := .slice _ _ _) rfl) rfl ?_
  refine p_val (e_len rfl Try.underlying24) rfl ?_
  refine p_val (e_neq rfl rfl) rfl ?_
  refine p_nil (x_then ?_)
  refine s_cond rfl (fun hc10 => ?_) (fun hc10 => ?_)
  · refine s_seq (s_plain ?_)
    refine p_val (e_assign (v := .bool _) rfl) rfl ?_
    refine p_nil (x_then (s_ret (x_then_ret ?_)))
    exact post1 (v := .bool _) Try.results46 rfl (⟨by rw [decide_eq_false (fun h => by rw [h] at hc10; omega)], S.to_below⟩)
  · refine s_skip (x_then (s_seq (s_seq (s_plain ?_))))
    refine p_val (e_assign (v := .int _ _) rfl) rfl ?_
    refine p_nil (x_then (s_block ?_))
    refine s_loopK (α := Nat) (ks := []) (ps := []) [(0, .slice _ _ _), (1, .slice _ _ _)] ⟨rfl, rfl, trivial⟩ S (fun keep ks ps g f' w' => ∃ u, f' = upds u ((5, .int .i64 (g : Int)) :: keep) ∧ (g ≤ L.length) ∧ (L.take g = M.take g) ∧ St w0 w' [] [] []) (fun g => L.length - g) (0) (⟨_, upds_eq ⟨rfl, rfl, rfl, trivial⟩, by first | omega | rfl | with_reducible assumption | (simp; done) | (simp; omega), by first | omega | rfl | with_reducible assumption | (simp; done) | (simp; omega), S⟩) ?_
    rintro g f w ⟨u, rfl, hg, he, S⟩
    refine s_seq (s_seq (s_plain ?_))
    refine p_val (e_move (v := .int _ _) rfl) rfl ?_
    refine p_val (e_move (v := .slice _ _ _) rfl) rfl ?_
    refine p_val (e_len rfl Try.underlying24) rfl ?_
    refine p_val (e_lss rfl rfl) rfl ?_
    refine p_nil (x_then ?_)
    refine s_cond rfl (fun hc14 => ?_) (fun hc14 => ?_)
    · refine s_skip (x_then (s_seq (s_block (s_seq ?_))))
      refine s_drawK (ks := []) (ps := []) S [(true, 0), (true, 1), (true, 2), (true, 3), (true, 4), (true, 5), (true, 6), (true, 7), (true, 8)] [] [] mixed (by kernel_rfl) (by repeat (first | exact Calm.post _ _ _ | refine Calm.then ?_ _ | refine Calm.inB ?_ _)) (fun hS => ?_)
      have S := S.drew
      have hg1 : (L.getD (g : Int).toNat []).length = 32 := hL.getD (by omega)
      have hg2 : (M.getD (g : Int).toNat []).length = 32 := hM.getD (by omega)
      refine q_val (fun w hS => e_move (v := .slice _ _ _) rfl) rfl hS ?_
      refine q_val (fun w hS => e_move (v := .int _ _) rfl) rfl hS ?_
      refine q_val (fun w hS => e_ixR (hS.rdOld R rfl) (by decide) rfl rfl Try.underlying24 sz29 (by omega)) rfl hS ?_
      refine q_val (fun w hS => e_loadRA rfl ag29 sz29 (by decide) (Rd.sumA (hS.rdOld R rfl) (by with_reducible assumption) (by omega))) rfl hS ?_
      refine q_val (fun w hS => e_move (v := .slice _ _ _) rfl) rfl hS ?_
      refine q_val (fun w hS => e_move (v := .int _ _) rfl) rfl hS ?_
      refine q_val (fun w hS => e_ixR (hS.rdOld R2 rfl) (by decide) rfl rfl Try.underlying24 sz29 (by omega)) rfl hS ?_
      refine q_val (fun w hS => e_loadRA rfl ag29 sz29 (by decide) (Rd.sumA (hS.rdOld R2 rfl) (by with_reducible assumption) (by omega))) rfl hS ?_
      refine q_val (fun w hS => EqT.sumN eq29 gd29 rfl rfl (by first | with_reducible assumption | (rw [bv_length]; with_reducible assumption) | (rw [List.size_toArray, bv_length]; with_reducible assumption) | (simp [cat, hg1, hg2]; done) | (simp [cat, hg1, hg2]; omega) | rfl) (by first | with_reducible assumption | (rw [bv_length]; with_reducible assumption) | (rw [List.size_toArray, bv_length]; with_reducible assumption) | (simp [cat, hg1, hg2]; done) | (simp [cat, hg1, hg2]; omega) | rfl)) rfl hS ?_
      refine q_nil (p_nil (x_then ?_))
      refine s_cond rfl (fun hc25 => ?_) (fun hc25 => ?_)
      · refine s_seq (s_plain ?_)
        refine p_val (e_assign (v := .bool _) rfl) rfl ?_
        refine p_nil (x_then (s_ret (x_in_ret (x_then_ret (x_then_ret (x_in_ret (x_then_ret ?_)))))))
        exact post1 (v := .bool _) Try.results46 rfl (⟨by rw [decide_eq_false (fun h => by subst h; simp at hc25)], S.to_below⟩)
      · refine s_skip (x_in (x_then (s_plain ?_)))
        refine p_val (e_move (v := .int _ _) rfl) rfl ?_
        refine p_val (e_add64 rfl rfl (by omega)) rfl ?_
        refine p_val (e_assign (v := .int _ _) rfl) rfl ?_
        refine p_nil ?_
        refine x_round (g + 1) _ rfl ⟨_, upds_eq ⟨rfl, rfl, rfl, trivial⟩, by first | omega | rfl | with_reducible assumption | (simp; done) | (simp; omega), by rw [take_getD (by omega), take_getD (by omega), he, show L.getD g [] = M.getD g [] by simpa [Int.toNat_natCast] using hc25], S⟩ (by omega)
    · refine s_exit (x_then_exit (x_then_exit (x_in_same (x_then (s_seq (s_plain ?_))))))
      refine p_val (e_assign (v := .bool _) rfl) rfl ?_
      refine p_nil (x_then (s_ret ?_))
      exact post1 (v := .bool _) Try.results46 rfl (⟨by rw [decide_eq_true (by rw [← List.take_of_length_le (l := L) (show L.length ≤ g by omega), he, List.take_of_length_le (by omega)])], S.to_below⟩)
theorem l3climb (w0 : World) (s : List Nat) (a m : Int) (A : Option Addr) (c : Nat) (P : List (List Nat)) (hs : s.length = 32) (R : Rd w0 32 A P.length (sv P)) (hP : All32 P) (hpn : P.length ≤ 1000000) (ha : 0 ≤ a) (ham : a < m) (hm : m ≤ 4096) :
    Ret Try.prog 40 [.agg (bv s).toArray, .int .i64 a, .int .i64 m, .slice A P.length c] w0 fun v w' => ∃ x b, v = .tuple #[.agg (bv x).toArray, .bool b] ∧ x.length = 32 ∧ climbC (mleaf s) a.toNat m.toNat P = (if b = true then some x else none) ∧ Below w0.heap.size w0 w' := by
  refine enter Try.func40 rfl Try.ntmps40 (Nat.le_of_ble_eq_true rfl) ?_
  have S := St.init w0
  refine s_seq (s_plain ?_)
  refine p_does (d_boxA S rfl) rfl ?_
  rintro _ w ⟨b4, rfl, S⟩
  refine p_does (d_allocA S zvS) rfl ?_
  rintro _ w ⟨b8, rfl, S⟩
  refine p_val (e_assign (v := .bool _) rfl) rfl ?_
  refine p_nil (x_then (s_seq (s_plain ?_)))
  refine p_val (e_loadW 1 rfl ag29 sz29 S rfl rfl (by first | with_reducible assumption | (rw [bv_length]; with_reducible assumption) | (rw [List.size_toArray, bv_length]; with_reducible assumption) | (simp [cat, length_join, length_mleaf, length_mpair, hs, length_zsum]; done) | (simp [cat, length_join, length_mleaf, length_mpair, hs, length_zsum]; omega) | rfl)) rfl ?_
  refine p_does (d_call Try.func45 nm45 rfl rfl (l3leaf _ _ (by first | with_reducible assumption | (rw [bv_length]; with_reducible assumption) | (rw [List.size_toArray, bv_length]; with_reducible assumption) | (simp [cat, length_join, length_mleaf, length_mpair, hs, length_zsum]; done) | (simp [cat, length_join, length_mleaf, length_mpair, hs, length_zsum]; omega) | rfl))) rfl ?_
  rintro _ w ⟨rfl, hB⟩
  have S := S.below hB
  refine p_does (d_allocA S zvS) rfl ?_
  rintro _ w ⟨b10, rfl, S⟩
  refine p_does (d_storeW S 0 rfl rfl (by first | exact bv_one _ | exact sv_one _ | exact iv_one _ | with_reducible assumption | (refine One.mem ?_; repeat (first | exact One.bv _ | exact One.sv _ | exact One.iv _ | exact One.nil | exact One.cat0 | refine One.cat1 ?_ ?_ | refine One.cons rfl ?_ | refine One.append ?_ ?_))) sz29 (by first | with_reducible assumption | (rw [bv_length]; with_reducible assumption) | (rw [List.size_toArray, bv_length]; with_reducible assumption) | (simp [cat, length_join, length_mleaf, length_mpair, hs, length_zsum]; done) | (simp [cat, length_join, length_mleaf, length_mpair, hs, length_zsum]; omega) | rfl) rfl rfl (by first | with_reducible assumption | (rw [bv_length]; with_reducible assumption) | (rw [List.size_toArray, bv_length]; with_reducible assumption) | (simp [cat, length_join, length_mleaf, length_mpair, hs, length_zsum]; done) | (simp [cat, length_join, length_mleaf, length_mpair, hs, length_zsum]; omega) | rfl)) rfl ?_
  intro _ w S
  refine p_nil (x_then (s_seq (s_plain ?_)))
  refine p_val (e_assign (v := .int _ _) rfl) rfl ?_
  refine p_nil (x_then (s_seq (s_seq (s_plain ?_))))
  refine p_val (e_assign (v := .int _ _) rfl) rfl ?_
  refine p_nil (x_then (s_block ?_))
  obtain ⟨a0, rfl⟩ : ∃ b0 : Nat, a = (b0 : Int) := ⟨a.toNat, by omega⟩
  obtain ⟨m0, rfl⟩ : ∃ b0 : Nat, m = (b0 : Int) := ⟨m.toNat, by omega⟩
  refine s_loopK (α := Nat) (ks := [some b10, some b8, some b4]) (ps := [Ex _ _, Ex _ _, Ex _ _]) [(3, .slice _ _ _), (8, .pointer _), (10, .pointer _)] ⟨rfl, rfl, rfl, trivial⟩ S (fun keep ks ps g f' w' => ∃ u b n k now, f' = upds u ((1, .int .i64 ((b : Nat) : Int)) :: (2, .int .i64 ((n : Nat) : Int)) :: (11, .int .i64 ((k : Nat) : Int)) :: (12, .int .i64 (g : Int)) :: keep) ∧ (now.length = 32) ∧ (g ≤ 12) ∧ (b < n) ∧ (n ≤ 2 ^ (12 - g)) ∧ (n ≤ 4096) ∧ (k ≤ P.length) ∧ (climbC now b n (P.drop k) = climbC (mleaf s) a0 m0 P) ∧ St w0 w' [] [some b10, some b8, some b4] [Ex (bv now).toArray 29, Ex (bv zsum).toArray 29, (ps.getD 2 fun _ => True)]) (fun g => 13 - g) (0) (⟨_, a0,  m0,  0,  _, upds_eq ⟨rfl, rfl, rfl, rfl, rfl, rfl, rfl, trivial⟩, length_mleaf s, by first | omega | rfl | with_reducible assumption | (simp; done) | (simp; omega), by first | omega | rfl | with_reducible assumption | (simp; done) | (simp; omega), by first | omega | rfl | with_reducible assumption | (simp; done) | (simp; omega), by first | omega | rfl | with_reducible assumption | (simp; done) | (simp; omega), by first | omega | rfl | with_reducible assumption | (simp; done) | (simp; omega), by first | omega | rfl | with_reducible assumption | (simp; done) | (simp; omega), S⟩) ?_
  rintro g f w ⟨u, b, n, k, now, rfl, hnl, hg, hb, hn, hn2, hk, hc, S⟩
  refine s_seq (s_seq ?_)
  refine s_cutK (ks := [some b10, some b8, some b4]) (ps := [Ex _ _, Ex _ _, Ex _ _]) [(1, .int _ _), (2, .int _ _), (3, .slice _ _ _), (8, .pointer _), (10, .pointer _), (11, .int _ _), (12, .int _ _)] ⟨rfl, rfl, rfl, rfl, rfl, rfl, rfl, trivial⟩ S (fun keep ks ps f' w' => ∃ u bb, f' = upds u ((21, .bool bb) :: keep) ∧ (bb = true ↔ (((g : Int) < (13 : Int)) ∧ ((1 : Int) < ((n : Nat) : Int)))) ∧ St w0 w' [] ks ps) ?_ ?_
  · refine s_plain ?_
    refine p_val (e_move (v := .int _ _) rfl) rfl ?_
    refine p_valB (e_lss rfl rfl) rfl (fun hg17 => ?_) (fun hg17 => ?_)
    · refine p_val (e_move (v := .bool _) rfl) rfl ?_
      refine pg_val rfl rfl rfl rfl rfl (e_move (v := .int _ _) rfl) ?_
      refine pg_val rfl rfl rfl rfl rfl (e_gtr rfl rfl) ?_
      refine p_val (e_pick_t rfl rfl) rfl ?_
      exact p_nil (x_then ⟨_, rfl, _, _, upds_eq ⟨rfl, rfl, rfl, rfl, rfl, rfl, rfl, rfl, trivial⟩, by first | (simp only [decide_eq_true_eq, eq_self, true_iff, iff_true, iff_false, Bool.false_eq_true, false_iff, ge_iff_le, gt_iff_lt, true_and, and_true, false_and, and_false, true_or, or_true, false_or, or_false, not_true_eq_false, not_false_eq_true]; omega) | simp | omega | simp_all, S⟩)
    · refine p_val (e_move (v := .bool _) rfl) rfl ?_
      refine p_no rfl rfl rfl rfl rfl ?_
      refine p_no rfl rfl rfl rfl rfl ?_
      refine p_val (e_pick_f rfl rfl) rfl ?_
      exact p_nil (x_then ⟨_, rfl, _, _, upds_eq ⟨rfl, rfl, rfl, rfl, rfl, rfl, rfl, rfl, trivial⟩, by first | (simp only [decide_eq_true_eq, eq_self, true_iff, iff_true, iff_false, Bool.false_eq_true, false_iff, ge_iff_le, gt_iff_lt, true_and, and_true, false_and, and_false, true_or, or_true, false_or, or_false, not_true_eq_false, not_false_eq_true]; omega) | simp | omega | simp_all, S⟩)
  · rintro f w ⟨u, b21, rfl, hb21, S⟩
    refine x_then ?_
    refine s_condb rfl (fun hc21 => ?_) (fun hc21 => ?_)
    · have hp21 : (((g : Int) < (13 : Int)) ∧ ((1 : Int) < ((n : Nat) : Int))) := hb21.1 hc21
      refine s_skip (x_then (s_seq (s_block (s_seq (s_plain ?_)))))
      have hg11 : g < 12 := by { by_cases h9 : g < 12; { exact h9 }; { rw [show 12 - g = 0 by omega] at hn; omega } }
      refine p_val (e_move (v := .int _ _) rfl) rfl ?_
      refine p_val (e_add64 rfl rfl (by omega)) rfl ?_
      refine p_val (e_move (v := .int _ _) rfl) rfl ?_
      refine p_val (e_rem64 rfl rfl (by omega)) rfl ?_
      refine p_val (e_mul64 rfl rfl (by omega)) rfl ?_
      refine p_val (e_sub64 rfl rfl (by omega)) rfl ?_
      refine p_val (e_assign (v := .int _ _) rfl) rfl ?_
      refine p_nil (x_then (s_seq ?_))
      refine s_cutK (ks := [some b10, some b8, some b4]) (ps := [Ex _ _, Ex _ _, Ex _ _]) [(1, .int _ _), (2, .int _ _), (3, .slice _ _ _), (8, .pointer _), (10, .pointer _), (12, .int _ _)] ⟨rfl, rfl, rfl, rfl, rfl, rfl, trivial⟩ S (fun keep ks ps f' w' => ∃ u k2 now2, f' = upds u ((11, .int .i64 ((k2 : Nat) : Int)) :: keep) ∧ (now2.length = 32) ∧ (k2 ≤ P.length) ∧ (climbC now2 (b / 2) ((n + 1) / 2) (P.drop k2) = climbC now b n (P.drop k)) ∧ St w0 w' [] [some b10, some b8, some b4] [Ex (bv now2).toArray 29, Ex (bv zsum).toArray 29, (ps.getD 2 fun _ => True)]) ?_ ?_
      · refine s_seq (s_plain ?_)
        refine p_val (e_move (v := .int _ _) rfl) rfl ?_
        refine p_val (e_move (v := .int _ _) rfl) rfl ?_
        refine p_val (e_lss rfl rfl) rfl ?_
        refine p_nil (x_then ?_)
        refine s_cond rfl (fun hc32 => ?_) (fun hc32 => ?_)
        · refine s_seq (s_seq (s_plain ?_))
          refine p_val (e_move (v := .int _ _) rfl) rfl ?_
          refine p_val (e_move (v := .slice _ _ _) rfl) rfl ?_
          refine p_val (e_len rfl Try.underlying24) rfl ?_
          refine p_val (e_geq rfl rfl) rfl ?_
          refine p_nil (x_then ?_)
          refine s_cond rfl (fun hc36 => ?_) (fun hc36 => ?_)
          · refine s_seq (s_plain ?_)
            refine p_val (e_loadW 0 rfl ag29 sz29 S rfl rfl (by first | with_reducible assumption | (rw [bv_length]; with_reducible assumption) | (rw [List.size_toArray, bv_length]; with_reducible assumption) | (simp [cat, length_join, length_mleaf, length_mpair, hs, length_zsum]; done) | (simp [cat, length_join, length_mleaf, length_mpair, hs, length_zsum]; omega) | rfl)) rfl ?_
            refine p_does (d_storeW S 1 rfl rfl (by first | exact bv_one _ | exact sv_one _ | exact iv_one _ | with_reducible assumption | (refine One.mem ?_; repeat (first | exact One.bv _ | exact One.sv _ | exact One.iv _ | exact One.nil | exact One.cat0 | refine One.cat1 ?_ ?_ | refine One.cons rfl ?_ | refine One.append ?_ ?_))) sz29 (by first | with_reducible assumption | (rw [bv_length]; with_reducible assumption) | (rw [List.size_toArray, bv_length]; with_reducible assumption) | (simp [cat, length_join, length_mleaf, length_mpair, hs, length_zsum]; done) | (simp [cat, length_join, length_mleaf, length_mpair, hs, length_zsum]; omega) | rfl) rfl rfl (by first | with_reducible assumption | (rw [bv_length]; with_reducible assumption) | (rw [List.size_toArray, bv_length]; with_reducible assumption) | (simp [cat, length_join, length_mleaf, length_mpair, hs, length_zsum]; done) | (simp [cat, length_join, length_mleaf, length_mpair, hs, length_zsum]; omega) | rfl)) rfl ?_
            intro _ w S
            refine p_val (e_assign (v := .bool _) rfl) rfl ?_
            refine p_nil (x_then (s_ret (x_then_ret (x_then_ret (x_then_ret (x_in_ret (x_then_ret (x_then_ret (x_in_ret (x_then_ret ?_))))))))))
            exact postC1 (v := .bool _) Try.results40 S 1 rfl rfl rfl rfl ag29 sz29 (by first | with_reducible assumption | (rw [bv_length]; with_reducible assumption) | (rw [List.size_toArray, bv_length]; with_reducible assumption) | (simp [cat, length_join, length_mleaf, length_mpair, hs, length_zsum]; done) | (simp [cat, length_join, length_mleaf, length_mpair, hs, length_zsum]; omega) | rfl) (⟨_, _, rfl, hnl, by rw [Int.toNat_natCast, Int.toNat_natCast, ← hc, List.drop_of_length_le (by omega), climbC_nil (by omega) (by unfold sidx; split <;> omega)]; rfl, S.to_below⟩)
          · refine s_skip (x_then (s_seq ?_))
            refine s_cutK (ks := [some b10, some b8, some b4]) (ps := [Ex _ _, Ex _ _, Ex _ _]) [(1, .int _ _), (2, .int _ _), (3, .slice _ _ _), (8, .pointer _), (10, .pointer _), (11, .int _ _), (12, .int _ _)] ⟨rfl, rfl, rfl, rfl, rfl, rfl, rfl, trivial⟩ S (fun keep ks ps f' w' => ∃ u now3, f' = upds u (keep) ∧ (now3.length = 32) ∧ (now3 = if b % 2 = 0 then mpair now (P.getD k []) else mpair (P.getD k []) now) ∧ St w0 w' [] [some b10, some b8, some b4] [Ex (bv now3).toArray 29, (ps.getD 1 fun _ => True), (ps.getD 2 fun _ => True)]) ?_ ?_
            · refine s_seq (s_plain ?_)
              have hp32 : (P.getD (k : Int).toNat []).length = 32 := hP.getD (by omega)
              refine p_val (e_move (v := .int _ _) rfl) rfl ?_
              refine p_val (e_rem64 rfl rfl (by omega)) rfl ?_
              refine p_val (e_eql rfl rfl) rfl ?_
              refine p_nil (x_then ?_)
              refine s_cond rfl (fun hc40 => ?_) (fun hc40 => ?_)
              · refine s_drawK (ks := [some b10, some b8, some b4]) (ps := [Ex _ _, Ex _ _, Ex _ _]) S [(true, 0), (true, 1), (true, 2), (true, 3), (true, 4), (false, 5)] [6] [6] mixed (by kernel_rfl) (by repeat (first | exact Calm.post _ _ _ | refine Calm.then ?_ _ | refine Calm.inB ?_ _)) (fun hS => ?_)
                have S := S.drew
                refine q_val (fun w hS => e_loadW 0 rfl ag29 sz29 hS rfl rfl (by first | with_reducible assumption | (rw [bv_length]; with_reducible assumption) | (rw [List.size_toArray, bv_length]; with_reducible assumption) | (simp [cat, length_join, length_mleaf, length_mpair, hs, length_zsum]; done) | (simp [cat, length_join, length_mleaf, length_mpair, hs, length_zsum]; omega) | rfl)) rfl hS ?_
                refine q_val (fun w hS => e_move (v := .slice _ _ _) rfl) rfl hS ?_
                refine q_val (fun w hS => e_move (v := .int _ _) rfl) rfl hS ?_
                refine q_val (fun w hS => e_ixR (hS.rdOld R rfl) (by decide) rfl rfl Try.underlying24 sz29 (by omega)) rfl hS ?_
                refine q_val (fun w hS => e_loadRA rfl ag29 sz29 (by decide) (Rd.sumA (hS.rdOld R rfl) (by with_reducible assumption) (by omega))) rfl hS ?_
                refine q_does (d_call Try.func85 nm85 rfl rfl (pair_calls _ 2 _ _ (by first | with_reducible assumption | (rw [bv_length]; with_reducible assumption) | (rw [List.size_toArray, bv_length]; with_reducible assumption) | (simp [cat, length_join, length_mleaf, length_mpair, hs, length_zsum]; done) | (simp [cat, length_join, length_mleaf, length_mpair, hs, length_zsum]; omega) | rfl) hp32)) rfl ?_
                rintro _ w ⟨rfl, hB⟩
                have S := S.below hB
                have hS := S.pk [0, 1, 2] rfl
                refine ⟨hS, ?_⟩
                refine q_nil ?_
                refine p_does (d_storeW S 0 rfl rfl (by first | exact bv_one _ | exact sv_one _ | exact iv_one _ | with_reducible assumption | (refine One.mem ?_; repeat (first | exact One.bv _ | exact One.sv _ | exact One.iv _ | exact One.nil | exact One.cat0 | refine One.cat1 ?_ ?_ | refine One.cons rfl ?_ | refine One.append ?_ ?_))) sz29 (by first | with_reducible assumption | (rw [bv_length]; with_reducible assumption) | (rw [List.size_toArray, bv_length]; with_reducible assumption) | (simp [cat, length_join, length_mleaf, length_mpair, hs, length_zsum]; done) | (simp [cat, length_join, length_mleaf, length_mpair, hs, length_zsum]; omega) | rfl) rfl rfl (by first | with_reducible assumption | (rw [bv_length]; with_reducible assumption) | (rw [List.size_toArray, bv_length]; with_reducible assumption) | (simp [cat, length_join, length_mleaf, length_mpair, hs, length_zsum]; done) | (simp [cat, length_join, length_mleaf, length_mpair, hs, length_zsum]; omega) | rfl)) rfl ?_
                intro _ w S
                refine p_nil ?_
                exact x_then ⟨_, rfl, _, _, upds_eq ⟨rfl, rfl, rfl, rfl, rfl, rfl, rfl, trivial⟩, length_join _ _, by rw [if_pos (by omega), Int.toNat_natCast]; rfl, S⟩
              · refine s_drawK (ks := [some b10, some b8, some b4]) (ps := [Ex _ _, Ex _ _, Ex _ _]) S [(true, 0), (true, 1), (true, 2), (true, 3), (true, 4), (false, 5)] [6] [6] mixed (by kernel_rfl) (by repeat (first | exact Calm.post _ _ _ | refine Calm.then ?_ _ | refine Calm.inB ?_ _)) (fun hS => ?_)
                have S := S.drew
                refine q_val (fun w hS => e_move (v := .slice _ _ _) rfl) rfl hS ?_
                refine q_val (fun w hS => e_move (v := .int _ _) rfl) rfl hS ?_
                refine q_val (fun w hS => e_ixR (hS.rdOld R rfl) (by decide) rfl rfl Try.underlying24 sz29 (by omega)) rfl hS ?_
                refine q_val (fun w hS => e_loadRA rfl ag29 sz29 (by decide) (Rd.sumA (hS.rdOld R rfl) (by with_reducible assumption) (by omega))) rfl hS ?_
                refine q_val (fun w hS => e_loadW 0 rfl ag29 sz29 hS rfl rfl (by first | with_reducible assumption | (rw [bv_length]; with_reducible assumption) | (rw [List.size_toArray, bv_length]; with_reducible assumption) | (simp [cat, length_join, length_mleaf, length_mpair, hs, length_zsum]; done) | (simp [cat, length_join, length_mleaf, length_mpair, hs, length_zsum]; omega) | rfl)) rfl hS ?_
                refine q_does (d_call Try.func85 nm85 rfl rfl (pair_calls _ 2 _ _ hp32 (by first | with_reducible assumption | (rw [bv_length]; with_reducible assumption) | (rw [List.size_toArray, bv_length]; with_reducible assumption) | (simp [cat, length_join, length_mleaf, length_mpair, hs, length_zsum]; done) | (simp [cat, length_join, length_mleaf, length_mpair, hs, length_zsum]; omega) | rfl))) rfl ?_
                rintro _ w ⟨rfl, hB⟩
                have S := S.below hB
                have hS := S.pk [0, 1, 2] rfl
                refine ⟨hS, ?_⟩
                refine q_nil ?_
                refine p_does (d_storeW S 0 rfl rfl (by first | exact bv_one _ | exact sv_one _ | exact iv_one _ | with_reducible assumption | (refine One.mem ?_; repeat (first | exact One.bv _ | exact One.sv _ | exact One.iv _ | exact One.nil | exact One.cat0 | refine One.cat1 ?_ ?_ | refine One.cons rfl ?_ | refine One.append ?_ ?_))) sz29 (by first | with_reducible assumption | (rw [bv_length]; with_reducible assumption) | (rw [List.size_toArray, bv_length]; with_reducible assumption) | (simp [cat, length_join, length_mleaf, length_mpair, hs, length_zsum]; done) | (simp [cat, length_join, length_mleaf, length_mpair, hs, length_zsum]; omega) | rfl) rfl rfl (by first | with_reducible assumption | (rw [bv_length]; with_reducible assumption) | (rw [List.size_toArray, bv_length]; with_reducible assumption) | (simp [cat, length_join, length_mleaf, length_mpair, hs, length_zsum]; done) | (simp [cat, length_join, length_mleaf, length_mpair, hs, length_zsum]; omega) | rfl)) rfl ?_
                intro _ w S
                refine p_nil ?_
                exact x_then ⟨_, rfl, _, _, upds_eq ⟨rfl, rfl, rfl, rfl, rfl, rfl, rfl, trivial⟩, length_join _ _, by rw [if_neg (by omega), Int.toNat_natCast]; rfl, S⟩
            · rintro f w ⟨u, now3, rfl, hnl3, h3, S⟩
              refine x_then (s_plain ?_)
              refine p_val (e_move (v := .int _ _) rfl) rfl ?_
              refine p_val (e_add64 rfl rfl (by omega)) rfl ?_
              refine p_val (e_assign (v := .int _ _) rfl) rfl ?_
              refine p_nil ?_
              exact x_then ⟨_, rfl, _, k + 1,  _, upds_eq ⟨rfl, rfl, rfl, rfl, rfl, rfl, rfl, trivial⟩, hnl3, by first | omega | rfl | with_reducible assumption | (simp; done) | (simp; omega), by rw [drop_getD (show k < P.length by omega), climbC_cons (by omega) (by unfold sidx; split <;> omega), h3], S⟩
        · refine s_skip ?_
          exact x_then ⟨_, rfl, _, k,  _, upds_eq ⟨rfl, rfl, rfl, rfl, rfl, rfl, rfl, trivial⟩, hnl, by first | omega | rfl | with_reducible assumption | (simp; done) | (simp; omega), (climbC_no (by omega) (by unfold sidx; split <;> omega)).symm, S⟩
      · rintro f w ⟨u, k2, now2, rfl, hnl2, hk2, hc2, S⟩
        refine x_then (s_seq (s_plain ?_))
        refine p_val (e_move (v := .int _ _) rfl) rfl ?_
        refine p_val (e_quo64 rfl rfl (by omega)) rfl ?_
        refine p_val (e_assign (v := .int _ _) rfl) rfl ?_
        refine p_nil (x_then (s_plain ?_))
        refine p_val (e_move (v := .int _ _) rfl) rfl ?_
        refine p_val (e_add64 rfl rfl (by omega)) rfl ?_
        refine p_val (e_quo64 rfl rfl (by omega)) rfl ?_
        refine p_val (e_assign (v := .int _ _) rfl) rfl ?_
        refine p_nil (x_in (x_then (s_plain ?_)))
        refine p_val (e_move (v := .int _ _) rfl) rfl ?_
        refine p_val (e_add64 rfl rfl (by omega)) rfl ?_
        refine p_val (e_assign (v := .int _ _) rfl) rfl ?_
        refine p_nil ?_
        refine x_round (g + 1) _ rfl ⟨_, b / 2,  (n + 1) / 2,  k2,  _, upds_eq ⟨rfl, rfl, rfl, rfl, rfl, rfl, rfl, trivial⟩, hnl2, by first | omega | rfl | with_reducible assumption | (simp; done) | (simp; omega), by first | omega | rfl | with_reducible assumption | (simp; done) | (simp; omega), by have e0 : 2 ^ (12 - g) = 2 * 2 ^ (12 - (g + 1)) := by { rw [← Nat.pow_succ']; congr 1; omega }; omega, by first | omega | rfl | with_reducible assumption | (simp; done) | (simp; omega), by first | omega | rfl | with_reducible assumption | (simp; done) | (simp; omega), by rw [hc2]; exact hc, S⟩ (by omega)
    · have hp21 : ¬ (((g : Int) < (13 : Int)) ∧ ((1 : Int) < ((n : Nat) : Int))) := fun h => by rw [hb21.2 h] at hc21; cases hc21
      refine s_exit (x_then_exit (x_then_exit (x_in_same (x_then (s_seq (s_plain ?_))))))
      have hn1 : n ≤ 1 := by { by_cases h9 : g < 12; { omega }; { rw [show 12 - g = 0 by omega] at hn; exact hn } }
      refine p_val (e_loadW 0 rfl ag29 sz29 S rfl rfl (by first | with_reducible assumption | (rw [bv_length]; with_reducible assumption) | (rw [List.size_toArray, bv_length]; with_reducible assumption) | (simp [cat, length_join, length_mleaf, length_mpair, hs, length_zsum]; done) | (simp [cat, length_join, length_mleaf, length_mpair, hs, length_zsum]; omega) | rfl)) rfl ?_
      refine p_val (e_move (v := .int _ _) rfl) rfl ?_
      refine p_val (e_move (v := .slice _ _ _) rfl) rfl ?_
      refine p_val (e_len rfl Try.underlying24) rfl ?_
      refine p_val (e_eql rfl rfl) rfl ?_
      refine p_does (d_storeW S 1 rfl rfl (by first | exact bv_one _ | exact sv_one _ | exact iv_one _ | with_reducible assumption | (refine One.mem ?_; repeat (first | exact One.bv _ | exact One.sv _ | exact One.iv _ | exact One.nil | exact One.cat0 | refine One.cat1 ?_ ?_ | refine One.cons rfl ?_ | refine One.append ?_ ?_))) sz29 (by first | with_reducible assumption | (rw [bv_length]; with_reducible assumption) | (rw [List.size_toArray, bv_length]; with_reducible assumption) | (simp [cat, length_join, length_mleaf, length_mpair, hs, length_zsum]; done) | (simp [cat, length_join, length_mleaf, length_mpair, hs, length_zsum]; omega) | rfl) rfl rfl (by first | with_reducible assumption | (rw [bv_length]; with_reducible assumption) | (rw [List.size_toArray, bv_length]; with_reducible assumption) | (simp [cat, length_join, length_mleaf, length_mpair, hs, length_zsum]; done) | (simp [cat, length_join, length_mleaf, length_mpair, hs, length_zsum]; omega) | rfl)) rfl ?_
      intro _ w S
      refine p_val (e_assign (v := .bool _) rfl) rfl ?_
      refine p_nil (x_then (s_ret ?_))
      exact postC1 (v := .bool _) Try.results40 S 1 rfl rfl rfl rfl ag29 sz29 (by first | with_reducible assumption | (rw [bv_length]; with_reducible assumption) | (rw [List.size_toArray, bv_length]; with_reducible assumption) | (simp [cat, length_join, length_mleaf, length_mpair, hs, length_zsum]; done) | (simp [cat, length_join, length_mleaf, length_mpair, hs, length_zsum]; omega) | rfl) (⟨_, _, rfl, hnl, by rw [Int.toNat_natCast, Int.toNat_natCast, ← hc, climbC_end hn1]; by_cases h8 : k = P.length; { rw [List.drop_of_length_le (by omega), if_pos (by simp [h8])] }; { rw [drop_getD (show k < P.length by omega), if_neg (by simp; omega)] }, S.to_below⟩)
end Go.Proofs.Ytdhfiamgmokfbaa
