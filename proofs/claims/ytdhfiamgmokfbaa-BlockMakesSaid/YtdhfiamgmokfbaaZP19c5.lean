/- Own texts, one behind the other: walks and laws that the statement needs. They prove no statement by themselves. -/
import Derived.Test.YtdhfiamgmokfbaaZP19c4
import Derived.Test.YtdhfiamgmokfbaaZP19c2
import Derived.Lib.SlBytesConst
import Derived.KernelRfl
/- What the third law's own functions compute, walked. It proves no statement by itself. -/
set_option linter.unusedSimpArgs false
set_option linter.unusedVariables false
set_option maxRecDepth 100000
set_option maxHeartbeats 1000000
namespace Go.Proofs.Ytdhfiamgmokfbaa
open Go Go.RowKit E
attribute [local irreducible] wpList seqH treeH
theorem drop_getD {l : List (List Nat)} {g : Nat} (h : g < l.length) : l.drop g = l.getD g [] :: l.drop (g + 1) := by
  rw [List.getD_eq_getElem?_getD, List.getElem?_eq_getElem h]; exact List.drop_eq_getElem_cons h
theorem mroot_one {l : List (List Nat)} (h : l.length = 1) : mroot l = mleaf (l.getD 0 []) := by
  match l, h with
  | [x], _ => unfold mroot; rw [if_neg (by simp)]; show rootI [mleaf x] = _; rw [rootI_one]; rfl
theorem half_of {n g : Nat} (h : hb n g = halfI n) (h1 : ¬ 2 * g < n) : halfI n = g := by
  rw [← h, hb, dif_neg (fun h' => h1 h'.2)]
theorem hb_next {n g : Nat} (h0 : 0 < g) (h1 : 2 * g < n) : hb n (g * 2) = hb n g := by
  rw [Nat.mul_comm]; conv => rhs; rw [hb, dif_pos ⟨h0, h1⟩]
theorem mroot_rec {l : List (List Nat)} (h : 0 < l.length) : mroot l = rec_ (l.map mleaf) := by
  unfold mroot; rw [if_neg (by omega), rootI_rec]
theorem mroot_two {l : List (List Nat)} (h : 2 ≤ l.length) : mroot l = mpair (mroot (l.take (halfI l.length))) (mroot (l.drop (halfI l.length))) := by
  have hl := half_lt h
  rw [mroot_rec (by omega), mroot_rec (l := l.take _) (by rw [List.length_take]; omega), mroot_rec (l := l.drop _) (by rw [List.length_drop]; omega), rec_two (by rw [List.length_map]; omega), List.length_map, List.map_take, List.map_drop]
def mrecP (l : List (List Nat)) (a : Nat) : List (List Nat) := recP (l.map mleaf) a
theorem mrecP_one {l : List (List Nat)} (h : l.length < 2) (a : Nat) : mrecP l a = [] := recP_one (by rw [List.length_map]; omega) a
theorem mrecP_lo {l : List (List Nat)} {a : Nat} (h : 2 ≤ l.length) (ha : a < halfI l.length) : mrecP l a = mrecP (l.take (halfI l.length)) a ++ [mroot (l.drop (halfI l.length))] := by
  have hl := half_lt h
  unfold mrecP
  rw [recP_two (by rw [List.length_map]; omega), List.length_map, if_pos ha, mroot_rec (by rw [List.length_drop]; omega), List.map_take, List.map_drop]
theorem mrecP_hi {l : List (List Nat)} {a : Nat} (h : 2 ≤ l.length) (ha : ¬ a < halfI l.length) : mrecP l a = mrecP (l.drop (halfI l.length)) (a - halfI l.length) ++ [mroot (l.take (halfI l.length))] := by
  have hl := half_lt h
  unfold mrecP
  rw [recP_two (by rw [List.length_map]; omega), List.length_map, if_neg ha, mroot_rec (by rw [List.length_take]; omega), List.map_take, List.map_drop]
theorem mrecP_all : ∀ (m : Nat) (l : List (List Nat)) (a : Nat), l.length = m → All32 (mrecP l a) := by
  intro m
  induction m using Nat.strongRecOn with
  | _ m ih =>
    intro l a hm
    by_cases h : l.length < 2
    · rw [mrecP_one h]; intro x hx; simp at hx
    · have hl := half_lt (n := l.length) (by omega)
      by_cases ha : a < halfI l.length
      · rw [mrecP_lo (by omega) ha]
        exact (ih _ (by rw [List.length_take]; omega) (l.take _) a rfl).append (All32.single (length_mroot _))
      · rw [mrecP_hi (by omega) ha]
        exact (ih _ (by rw [List.length_drop]; omega) (l.drop _) _ rfl).append (All32.single (length_mroot _))
theorem mrecP_len : ∀ (m : Nat) (l : List (List Nat)) (a : Nat), l.length = m → (mrecP l a).length ≤ l.length := by
  intro m
  induction m using Nat.strongRecOn with
  | _ m ih =>
    intro l a hm
    by_cases h : l.length < 2
    · rw [mrecP_one h]; simp
    · have hl := half_lt (n := l.length) (by omega)
      have e1 : (l.take (halfI l.length)).length = halfI l.length := by rw [List.length_take]; omega
      have e2 : (l.drop (halfI l.length)).length = l.length - halfI l.length := List.length_drop
      by_cases ha : a < halfI l.length
      · have := ih _ (by omega) (l.take _) a e1
        rw [mrecP_lo (by omega) ha, List.length_append]; simp only [List.length_cons, List.length_nil]; omega
      · have := ih _ (by omega) (l.drop _) (a - halfI l.length) e2
        rw [mrecP_hi (by omega) ha, List.length_append]; simp only [List.length_cons, List.length_nil]; omega
theorem l3few (w0 : World) (A : Option Addr) (c : Nat) (L : List (List Nat)) (hn : L.length ≤ c) :
    Ret Try.prog 37 [.slice A L.length c] w0 fun v w' => v = .slice A (L.take 40).length c ∧ Below w0.heap.size w0 w' := by
  refine enter Try.func37 rfl Try.ntmps37 (Nat.le_of_ble_eq_true rfl) ?_
  have S := St.init w0
  refine s_seq (s_plain ?_)
  refine p_val (e_assign (v := .slice _ _ _) rfl) rfl ?_
  refine p_nil (x_then (s_seq (s_seq (s_plain ?_))))
  refine p_val (e_move (v := .slice _ _ _) rfl) rfl ?_
  refine p_val (e_len rfl Try.underlying24) rfl ?_
  refine p_val (e_gtr rfl rfl) rfl ?_
  refine p_nil (x_then ?_)
  refine s_cond rfl (fun hc5 => ?_) (fun hc5 => ?_)
  · refine s_seq (s_plain ?_)
    refine p_val (e_move (v := .slice _ _ _) rfl) rfl ?_
    refine p_val (e_sl_h (40) rfl rfl (rfl) (by omega) Try.underlying24 sz29) rfl ?_
    refine p_val (e_assign (v := .slice _ _ _) rfl) rfl ?_
    refine p_nil (x_then (s_ret (x_then_ret ?_)))
    exact post1 (v := .slice _ _ _) Try.results37 rfl (⟨by rw [List.length_take]; congr 1; omega, S.to_below⟩)
  · refine s_skip (x_then (s_seq (s_plain ?_)))
    refine p_val (e_move (v := .slice _ _ _) rfl) rfl ?_
    refine p_val (e_assign (v := .slice _ _ _) rfl) rfl ?_
    refine p_nil (x_then (s_ret ?_))
    exact post1 (v := .slice _ _ _) Try.results37 rfl (⟨by rw [List.length_take]; congr 1; omega, S.to_below⟩)
theorem l3root_s (q : Nat) (ih : ∀ (w0 : World) (A : Option Addr) (n c : Nat) (L : List (List Nat)) (R : Rd w0 32 A n (sv L)) (hL : All32 L) (hl : L.length = n) (cR : n ≤ c) (hn : n ≤ 1000000) (hq : n < q), Ret Try.prog 43 [.slice A n c] w0 fun v w' => v = .agg (bv (mroot L)).toArray ∧ Below w0.heap.size w0 w') (w0 : World) (A : Option Addr) (c : Nat) (L : List (List Nat)) (R : Rd w0 32 A L.length (sv L)) (hL : All32 L) (cR : L.length ≤ c) (hn : L.length ≤ 1000000) (hq : L.length = q) :
    Ret Try.prog 43 [.slice A L.length c] w0 fun v w' => v = .agg (bv (mroot L)).toArray ∧ Below w0.heap.size w0 w' := by
  refine enter Try.func43 rfl Try.ntmps43 (Nat.le_of_ble_eq_true rfl) ?_
  have S := St.init w0
  refine s_seq (s_plain ?_)
  refine p_does (d_allocA S zvS) rfl ?_
  rintro _ w ⟨b2, rfl, S⟩
  refine p_nil (x_then (s_seq (s_seq (s_plain ?_))))
  refine p_val (e_move (v := .slice _ _ _) rfl) rfl ?_
  refine p_val (e_len rfl Try.underlying24) rfl ?_
  refine p_val (e_eql rfl rfl) rfl ?_
  refine p_nil (x_then ?_)
  refine s_cond rfl (fun hc6 => ?_) (fun hc6 => ?_)
  · refine s_seq (s_plain ?_)
    refine p_does (d_call Try.func19 nm19 rfl rfl (join_calls _ 3 none 0 [] Parts.zero (by simp [joinB]) (by simp))) rfl ?_
    rintro _ w ⟨rfl, hB⟩
    have S := S.below hB
    refine p_does (d_storeW S 0 rfl rfl (by first | exact bv_one _ | exact sv_one _ | exact iv_one _ | with_reducible assumption | (refine One.mem ?_; repeat (first | exact One.bv _ | exact One.sv _ | exact One.iv _ | exact One.nil | exact One.cat0 | refine One.cat1 ?_ ?_ | refine One.cons rfl ?_ | refine One.append ?_ ?_))) sz29 (by first | with_reducible assumption | (rw [bv_length]; with_reducible assumption) | (rw [List.size_toArray, bv_length]; with_reducible assumption) | (simp [cat, length_join, length_mroot, length_mleaf, length_zsum]; done) | (simp [cat, length_join, length_mroot, length_mleaf, length_zsum]; omega) | rfl) rfl rfl (by first | with_reducible assumption | (rw [bv_length]; with_reducible assumption) | (rw [List.size_toArray, bv_length]; with_reducible assumption) | (simp [cat, length_join, length_mroot, length_mleaf, length_zsum]; done) | (simp [cat, length_join, length_mroot, length_mleaf, length_zsum]; omega) | rfl)) rfl ?_
    intro _ w S
    refine p_nil (x_then (s_ret (x_then_ret ?_)))
    exact postC Try.results43 S 0 rfl rfl rfl ag29 sz29 (by first | with_reducible assumption | (rw [bv_length]; with_reducible assumption) | (rw [List.size_toArray, bv_length]; with_reducible assumption) | (simp [cat, length_join, length_mroot, length_mleaf, length_zsum]; done) | (simp [cat, length_join, length_mroot, length_mleaf, length_zsum]; omega) | rfl) (⟨by unfold mroot; rw [if_pos (by omega)], S.to_below⟩)
  · refine s_skip (x_then (s_seq (s_seq (s_plain ?_))))
    refine p_val (e_move (v := .slice _ _ _) rfl) rfl ?_
    refine p_val (e_len rfl Try.underlying24) rfl ?_
    refine p_val (e_eql rfl rfl) rfl ?_
    refine p_nil (x_then ?_)
    refine s_cond rfl (fun hc10 => ?_) (fun hc10 => ?_)
    · refine s_seq (s_plain ?_)
      have h0 : (L.getD (0 : Int).toNat []).length = 32 := hL.getD (by simp; omega)
      refine p_val (e_move (v := .slice _ _ _) rfl) rfl ?_
      refine p_val (e_ixR (S.rdOld R rfl) (by decide) rfl rfl Try.underlying24 sz29 (by omega)) rfl ?_
      refine p_val (e_loadRA rfl ag29 sz29 (by decide) (Rd.sumA (S.rdOld R rfl) (by with_reducible assumption) (by omega))) rfl ?_
      refine p_does (d_call Try.func45 nm45 rfl rfl (l3leaf _ _ h0)) rfl ?_
      rintro _ w ⟨rfl, hB⟩
      have S := S.below hB
      refine p_does (d_storeW S 0 rfl rfl (by first | exact bv_one _ | exact sv_one _ | exact iv_one _ | with_reducible assumption | (refine One.mem ?_; repeat (first | exact One.bv _ | exact One.sv _ | exact One.iv _ | exact One.nil | exact One.cat0 | refine One.cat1 ?_ ?_ | refine One.cons rfl ?_ | refine One.append ?_ ?_))) sz29 (by first | with_reducible assumption | (rw [bv_length]; with_reducible assumption) | (rw [List.size_toArray, bv_length]; with_reducible assumption) | (simp [cat, length_join, length_mroot, length_mleaf, length_zsum]; done) | (simp [cat, length_join, length_mroot, length_mleaf, length_zsum]; omega) | rfl) rfl rfl (by first | with_reducible assumption | (rw [bv_length]; with_reducible assumption) | (rw [List.size_toArray, bv_length]; with_reducible assumption) | (simp [cat, length_join, length_mroot, length_mleaf, length_zsum]; done) | (simp [cat, length_join, length_mroot, length_mleaf, length_zsum]; omega) | rfl)) rfl ?_
      intro _ w S
      refine p_nil (x_then (s_ret (x_then_ret ?_)))
      exact postC Try.results43 S 0 rfl rfl rfl ag29 sz29 (by first | with_reducible assumption | (rw [bv_length]; with_reducible assumption) | (rw [List.size_toArray, bv_length]; with_reducible assumption) | (simp [cat, length_join, length_mroot, length_mleaf, length_zsum]; done) | (simp [cat, length_join, length_mroot, length_mleaf, length_zsum]; omega) | rfl) (⟨by rw [mroot_one (by omega)]; rfl, S.to_below⟩)
    · refine s_skip (x_then (s_seq (s_plain ?_)))
      refine p_val (e_assign (v := .int _ _) rfl) rfl ?_
      refine p_nil (x_then (s_seq (s_block ?_)))
      refine s_loopK (α := Nat) (ks := [some b2]) (ps := [Ex _ _]) [(0, .slice _ _ _), (2, .pointer _)] ⟨rfl, rfl, trivial⟩ S (fun keep ks ps g f' w' => ∃ u, f' = upds u ((3, .int .i64 (g : Int)) :: keep) ∧ (1 ≤ g) ∧ (g < L.length) ∧ (hb L.length g = halfI L.length) ∧ St w0 w' [] [some b2] [(ps.getD 0 fun _ => True)]) (fun g => L.length - g) (1) (⟨_, upds_eq ⟨rfl, rfl, rfl, trivial⟩, by first | omega | rfl | with_reducible assumption | (simp; done) | (simp; omega), by first | omega | rfl | with_reducible assumption | (simp; done) | (simp; omega), by first | omega | rfl | with_reducible assumption | (simp; done) | (simp; omega), S⟩) ?_
      rintro g f w ⟨u, rfl, h1, hg, hk, S⟩
      refine s_seq (s_seq (s_plain ?_))
      refine p_val (e_move (v := .int _ _) rfl) rfl ?_
      refine p_val (e_mul64 rfl rfl (by omega)) rfl ?_
      refine p_val (e_move (v := .slice _ _ _) rfl) rfl ?_
      refine p_val (e_len rfl Try.underlying24) rfl ?_
      refine p_val (e_lss rfl rfl) rfl ?_
      refine p_nil (x_then ?_)
      refine s_cond rfl (fun hc19 => ?_) (fun hc19 => ?_)
      · refine s_skip (x_then (s_block (s_plain ?_)))
        refine p_val (e_move (v := .int _ _) rfl) rfl ?_
        refine p_val (e_mul64 rfl rfl (by omega)) rfl ?_
        refine p_val (e_assign (v := .int _ _) rfl) rfl ?_
        refine p_nil (x_in ?_)
        refine x_round (g * 2) _ rfl ⟨_, upds_eq ⟨rfl, rfl, rfl, trivial⟩, by first | omega | rfl | with_reducible assumption | (simp; done) | (simp; omega), by first | omega | rfl | with_reducible assumption | (simp; done) | (simp; omega), by rw [hb_next (by omega) (by omega)]; exact hk, S⟩ (by omega)
      · refine s_exit (x_then_exit (x_then_exit (x_in_same (x_then (s_seq ?_)))))
        refine s_drawZ [(true, 0), (true, 1), (true, 2), (true, 4), (true, 5), (true, 6), (false, 3), (false, 7), (false, 8)] [9] [9] (fun _ => True) mixed (by kernel_rfl) (by repeat (first | exact Calm.post _ _ _ | refine Calm.then ?_ _ | refine Calm.inB ?_ _)) ?_
        have hS : True := trivial
        have S := S.drew
        have hh : halfI L.length = g := half_of hk (by omega)
        have e1 : (L.take g).length = g := by rw [List.length_take]; omega
        have e2 : (L.drop g).length = L.length - g := List.length_drop
        refine q_val (fun w hS => e_move (v := .slice _ _ _) rfl) rfl hS ?_
        refine q_val (fun w hS => e_move (v := .int _ _) rfl) rfl hS ?_
        refine q_val (fun w hS => e_sl_h (g) rfl rfl (rfl) (by omega) Try.underlying24 sz29) rfl hS ?_
        refine q_val (fun w hS => e_move (v := .slice _ _ _) rfl) rfl hS ?_
        refine q_val (fun w hS => e_move (v := .int _ _) rfl) rfl hS ?_
        refine q_val (fun w hS => e_sl_l (g) rfl rfl (rfl) (by omega) Try.underlying24 sz29) rfl hS ?_
        refine q_does (d_call Try.func43 nm43 rfl rfl (ih _ _ _ _ _ (Rd.take_sv hL (S.rdOld R rfl) (by omega)) (hL.take g) e1 (by omega) (by omega) (by omega))) rfl ?_
        rintro _ w ⟨rfl, hB⟩
        have S := S.below hB
        have hS := trivial
        refine ⟨hS, ?_⟩
        refine q_does (d_call Try.func43 nm43 rfl rfl (ih _ _ _ _ _ (Rd.drop_sv hL (S.rdOld R rfl) (by omega) cR) (hL.drop g) e2 (by omega) (by omega) (by omega))) rfl ?_
        rintro _ w ⟨rfl, hB⟩
        have S := S.below hB
        have hS := trivial
        refine ⟨hS, ?_⟩
        refine q_does (d_call Try.func85 nm85 rfl rfl (pair_calls _ _ _ _ (by first | with_reducible assumption | (rw [bv_length]; with_reducible assumption) | (rw [List.size_toArray, bv_length]; with_reducible assumption) | (simp [cat, length_join, length_mroot, length_mleaf, length_zsum]; done) | (simp [cat, length_join, length_mroot, length_mleaf, length_zsum]; omega) | rfl) (by first | with_reducible assumption | (rw [bv_length]; with_reducible assumption) | (rw [List.size_toArray, bv_length]; with_reducible assumption) | (simp [cat, length_join, length_mroot, length_mleaf, length_zsum]; done) | (simp [cat, length_join, length_mroot, length_mleaf, length_zsum]; omega) | rfl))) rfl ?_
        rintro _ w ⟨rfl, hB⟩
        have S := S.below hB
        have hS := trivial
        refine ⟨hS, ?_⟩
        refine q_nil ?_
        refine p_does (d_storeW S 0 rfl rfl (by first | exact bv_one _ | exact sv_one _ | exact iv_one _ | with_reducible assumption | (refine One.mem ?_; repeat (first | exact One.bv _ | exact One.sv _ | exact One.iv _ | exact One.nil | exact One.cat0 | refine One.cat1 ?_ ?_ | refine One.cons rfl ?_ | refine One.append ?_ ?_))) sz29 (by first | with_reducible assumption | (rw [bv_length]; with_reducible assumption) | (rw [List.size_toArray, bv_length]; with_reducible assumption) | (simp [cat, length_join, length_mroot, length_mleaf, length_zsum]; done) | (simp [cat, length_join, length_mroot, length_mleaf, length_zsum]; omega) | rfl) rfl rfl (by first | with_reducible assumption | (rw [bv_length]; with_reducible assumption) | (rw [List.size_toArray, bv_length]; with_reducible assumption) | (simp [cat, length_join, length_mroot, length_mleaf, length_zsum]; done) | (simp [cat, length_join, length_mroot, length_mleaf, length_zsum]; omega) | rfl)) rfl ?_
        intro _ w S
        refine p_nil (x_then (s_ret ?_))
        exact postC Try.results43 S 0 rfl rfl rfl ag29 sz29 (by first | with_reducible assumption | (rw [bv_length]; with_reducible assumption) | (rw [List.size_toArray, bv_length]; with_reducible assumption) | (simp [cat, length_join, length_mroot, length_mleaf, length_zsum]; done) | (simp [cat, length_join, length_mroot, length_mleaf, length_zsum]; omega) | rfl) (⟨by rw [mroot_two (l := L) (by omega), hh]; rfl, S.to_below⟩)
theorem l3root_n : ∀ (q : Nat) (w0 : World) (A : Option Addr) (n c : Nat) (L : List (List Nat)) (R : Rd w0 32 A n (sv L)) (hL : All32 L) (hl : L.length = n) (cR : n ≤ c) (hn : n ≤ 1000000) (hq : n = q), Ret Try.prog 43 [.slice A n c] w0 fun v w' => v = .agg (bv (mroot L)).toArray ∧ Below w0.heap.size w0 w' := by
  intro q
  induction q using Nat.strongRecOn with
  | _ q ih =>
    intro w0 A n c L R hL hl cR hn hq
    subst hl
    exact l3root_s q (fun w0 A n c L R hL hl cR hn hq => ih n hq w0 A n c L R hL hl cR hn rfl) w0 A c L R hL cR hn hq
theorem l3root (w0 : World) (A : Option Addr) (n c : Nat) (L : List (List Nat)) (R : Rd w0 32 A n (sv L)) (hL : All32 L) (hl : L.length = n) (cR : n ≤ c) (hn : n ≤ 1000000) : Ret Try.prog 43 [.slice A n c] w0 fun v w' => v = .agg (bv (mroot L)).toArray ∧ Below w0.heap.size w0 w' := l3root_n n w0 A n c L R hL hl cR hn rfl
theorem l3path_s (q : Nat) (ih : ∀ (w0 : World) (ai : Int) (a : Nat) (hai : ai = (a : Int)) (A : Option Addr) (n c : Nat) (L : List (List Nat)) (R : Rd w0 32 A n (sv L)) (hL : All32 L) (hl : L.length = n) (cR : n ≤ c) (hn : n ≤ 1000000) (ha : a < n) (hq : n < q), Ret Try.prog 47 [.slice A n c, .int .i64 ai] w0 fun v w' => ∃ k c2, v = .slice (at_ k) (mrecP L a).length c2 ∧ St w0 w' [] [k] [Rw 29 32 (mrecP L a).length c2 (sv (mrecP L a))]) (w0 : World) (a : Nat) (A : Option Addr) (c : Nat) (L : List (List Nat)) (R : Rd w0 32 A L.length (sv L)) (hL : All32 L) (cR : L.length ≤ c) (hn : L.length ≤ 1000000) (ha : a < L.length) (hq : L.length = q) :
    Ret Try.prog 47 [.slice A L.length c, .int .i64 (a : Int)] w0 fun v w' => ∃ k c2, v = .slice (at_ k) (mrecP L a).length c2 ∧ St w0 w' [] [k] [Rw 29 32 (mrecP L a).length c2 (sv (mrecP L a))] := by
  refine enter Try.func47 rfl Try.ntmps47 (Nat.le_of_ble_eq_true rfl) ?_
  have S := St.init w0
  refine s_seq (s_plain ?_)
  refine p_val (e_assign (v := .slice _ _ _) rfl) rfl ?_
  refine p_nil (x_then (s_seq (s_seq (s_plain ?_))))
  refine p_val (e_move (v := .slice _ _ _) rfl) rfl ?_
  refine p_val (e_len rfl Try.underlying24) rfl ?_
  refine p_val (e_lss rfl rfl) rfl ?_
  refine p_nil (x_then ?_)
  refine s_cond rfl (fun hc8 => ?_) (fun hc8 => ?_)
  · refine s_seq (s_plain ?_)
    refine p_val (e_assign (v := .slice _ _ _) rfl) rfl ?_
    refine p_nil (x_then (s_ret (x_then_ret ?_)))
    exact post1 (v := .slice _ _ _) Try.results47 rfl (by rw [mrecP_one (by omega)]; exact ⟨none, 0, rfl, S.none_.addNil 29 32⟩)
  · refine s_skip (x_then (s_seq (s_plain ?_)))
    refine p_val (e_assign (v := .int _ _) rfl) rfl ?_
    refine p_nil (x_then (s_seq (s_block ?_)))
    refine s_loopK (α := Nat) (ks := []) (ps := []) [(0, .slice _ _ _), (1, .int _ _)] ⟨rfl, rfl, trivial⟩ S (fun keep ks ps g f' w' => ∃ u, f' = upds u ((5, .int .i64 (g : Int)) :: keep) ∧ (1 ≤ g) ∧ (g < L.length) ∧ (hb L.length g = halfI L.length) ∧ St w0 w' [] [] []) (fun g => L.length - g) (1) (⟨_, upds_eq ⟨rfl, rfl, rfl, trivial⟩, by first | omega | rfl | with_reducible assumption | (simp; done) | (simp; omega), by first | omega | rfl | with_reducible assumption | (simp; done) | (simp; omega), by first | omega | rfl | with_reducible assumption | (simp; done) | (simp; omega), S⟩) ?_
    rintro g f w ⟨u, rfl, h1, hg, hk, S⟩
    refine s_seq (s_seq (s_plain ?_))
    refine p_val (e_move (v := .int _ _) rfl) rfl ?_
    refine p_val (e_mul64 rfl rfl (by omega)) rfl ?_
    refine p_val (e_move (v := .slice _ _ _) rfl) rfl ?_
    refine p_val (e_len rfl Try.underlying24) rfl ?_
    refine p_val (e_lss rfl rfl) rfl ?_
    refine p_nil (x_then ?_)
    refine s_cond rfl (fun hc13 => ?_) (fun hc13 => ?_)
    · refine s_skip (x_then (s_block (s_plain ?_)))
      refine p_val (e_move (v := .int _ _) rfl) rfl ?_
      refine p_val (e_mul64 rfl rfl (by omega)) rfl ?_
      refine p_val (e_assign (v := .int _ _) rfl) rfl ?_
      refine p_nil (x_in ?_)
      refine x_round (g * 2) _ rfl ⟨_, upds_eq ⟨rfl, rfl, rfl, trivial⟩, by first | omega | rfl | with_reducible assumption | (simp; done) | (simp; omega), by first | omega | rfl | with_reducible assumption | (simp; done) | (simp; omega), by rw [hb_next (by omega) (by omega)]; exact hk, S⟩ (by omega)
    · refine s_exit (x_then_exit (x_then_exit (x_in_same (x_then (s_seq (s_seq (s_plain ?_)))))))
      have hh : halfI L.length = g := half_of hk (by omega)
      have e1 : (L.take g).length = g := by rw [List.length_take]; omega
      have e2 : (L.drop g).length = L.length - g := List.length_drop
      refine p_val (e_move (v := .int _ _) rfl) rfl ?_
      refine p_val (e_move (v := .int _ _) rfl) rfl ?_
      refine p_val (e_lss rfl rfl) rfl ?_
      refine p_nil (x_then ?_)
      refine s_cond rfl (fun hc18 => ?_) (fun hc18 => ?_)
      · refine s_seq ?_
        refine s_drawZ [(true, 0), (true, 1), (true, 2), (true, 3), (true, 5), (true, 6), (true, 7), (false, 4), (false, 8), (false, 9), (false, 10)] [11] [11] (fun _ => True) mixed (by kernel_rfl) (by repeat (first | exact Calm.post _ _ _ | refine Calm.then ?_ _ | refine Calm.inB ?_ _)) ?_
        have hS : True := trivial
        have S := S.drew
        refine q_val (fun w hS => e_move (v := .slice _ _ _) rfl) rfl hS ?_
        refine q_val (fun w hS => e_move (v := .int _ _) rfl) rfl hS ?_
        refine q_val (fun w hS => e_sl_h (g) rfl rfl (rfl) (by omega) Try.underlying24 sz29) rfl hS ?_
        refine q_val (fun w hS => e_move (v := .int _ _) rfl) rfl hS ?_
        refine q_val (fun w hS => e_move (v := .slice _ _ _) rfl) rfl hS ?_
        refine q_val (fun w hS => e_move (v := .int _ _) rfl) rfl hS ?_
        refine q_val (fun w hS => e_sl_l (g) rfl rfl (rfl) (by omega) Try.underlying24 sz29) rfl hS ?_
        have hpl : (mrecP (L.take g) a).length ≤ 1000000 := by { have := mrecP_len _ (L.take g) a rfl; omega }
        refine q_does (d_call Try.func47 nm47 rfl rfl (ih _ _ a rfl _ _ _ _ (Rd.take_sv hL (S.rdOld R rfl) (by omega)) (hL.take g) e1 (by omega) (by omega) (by omega) (by omega))) rfl ?_
        rintro _ w ⟨k23, c23, rfl, T⟩
        have S := S.merge T rfl
        have hS := trivial
        refine ⟨hS, ?_⟩
        refine q_does (d_call Try.func43 nm43 rfl rfl (l3root _ _ _ _ _ (Rd.drop_sv hL (S.rdOld R rfl) (by omega) cR) (hL.drop g) e2 (by omega) (by omega))) rfl ?_
        rintro _ w ⟨rfl, hB⟩
        have S := S.below hB
        have hS := trivial
        refine ⟨hS, ?_⟩
        refine q_does (d_litS S Try.underlying24 sz29 zv29 rfl (L := [_]) rfl rfl (by intro x hx; simp at hx; simp [hx, length_join, length_mroot, length_mleaf, length_zsum]) (by decide)) rfl ?_
        rintro _ w ⟨b28, rfl, S⟩
        have hS := trivial
        refine ⟨hS, ?_⟩
        refine q_does (d_append S 1 rfl rfl Try.underlying24 el29 rfl rfl (S.rdRw 0 rfl rfl) (by first | exact bv_one _ | exact sv_one _ | exact iv_one _ | with_reducible assumption | (refine One.mem ?_; repeat (first | exact One.bv _ | exact One.sv _ | exact One.iv _ | exact One.nil | exact One.cat0 | refine One.cat1 ?_ ?_ | refine One.cons rfl ?_ | refine One.append ?_ ?_))) (by first | omega | (simp only [List.length_append, List.length_cons, List.length_nil, bv_length, length_join, length_mroot, length_mleaf, length_zsum]; omega) | (simp [cat, length_join, length_mroot, length_mleaf, length_zsum]; omega)) (by unfold maxLen; first | omega | (simp only [List.length_append, List.length_cons, List.length_nil, bv_length, length_join, length_mroot, length_mleaf, length_zsum]; omega))) rfl ?_
        rintro _ w ⟨k29, c29, rfl, S⟩
        have hS := trivial
        refine ⟨hS, ?_⟩
        refine q_nil ?_
        refine p_val (e_assign (v := .slice _ _ _) rfl) rfl ?_
        refine p_nil (x_then (s_ret (x_then_ret ?_)))
        exact post1 (v := .slice _ _ _) Try.results47 rfl (by rw [mrecP_lo (l := L) (a := a) (by omega) (by omega), hh]; exact ⟨_, _, by rw [List.length_append]; rfl, by rw [List.length_append, sv_append]; exact S.pk [1] rfl⟩)
      · refine s_skip (x_then (s_seq ?_))
        refine s_drawZ [(true, 0), (true, 1), (true, 2), (true, 3), (true, 4), (true, 5), (true, 7), (true, 8), (true, 9), (false, 6), (false, 10), (false, 11), (false, 12)] [13] [13] (fun _ => True) mixed (by kernel_rfl) (by repeat (first | exact Calm.post _ _ _ | refine Calm.then ?_ _ | refine Calm.inB ?_ _)) ?_
        have hS : True := trivial
        have S := S.drew
        refine q_val (fun w hS => e_move (v := .slice _ _ _) rfl) rfl hS ?_
        refine q_val (fun w hS => e_move (v := .int _ _) rfl) rfl hS ?_
        refine q_val (fun w hS => e_sl_l (g) rfl rfl (rfl) (by omega) Try.underlying24 sz29) rfl hS ?_
        refine q_val (fun w hS => e_move (v := .int _ _) rfl) rfl hS ?_
        refine q_val (fun w hS => e_move (v := .int _ _) rfl) rfl hS ?_
        refine q_val (fun w hS => e_sub64 rfl rfl (by omega)) rfl hS ?_
        refine q_val (fun w hS => e_move (v := .slice _ _ _) rfl) rfl hS ?_
        refine q_val (fun w hS => e_move (v := .int _ _) rfl) rfl hS ?_
        refine q_val (fun w hS => e_sl_h (g) rfl rfl (rfl) (by omega) Try.underlying24 sz29) rfl hS ?_
        have hpl : (mrecP (L.drop g) (a - g)).length ≤ 1000000 := by { have := mrecP_len _ (L.drop g) (a - g) rfl; omega }
        refine q_does (d_call Try.func47 nm47 rfl rfl (ih _ _ (a - g) (by omega) _ _ _ _ (Rd.drop_sv hL (S.rdOld R rfl) (by omega) cR) (hL.drop g) e2 (by omega) (by omega) (by omega) (by omega))) rfl ?_
        rintro _ w ⟨k36, c36, rfl, T⟩
        have S := S.merge T rfl
        have hS := trivial
        refine ⟨hS, ?_⟩
        refine q_does (d_call Try.func43 nm43 rfl rfl (l3root _ _ _ _ _ (Rd.take_sv hL (S.rdOld R rfl) (by omega)) (hL.take g) e1 (by omega) (by omega))) rfl ?_
        rintro _ w ⟨rfl, hB⟩
        have S := S.below hB
        have hS := trivial
        refine ⟨hS, ?_⟩
        refine q_does (d_litS S Try.underlying24 sz29 zv29 rfl (L := [_]) rfl rfl (by intro x hx; simp at hx; simp [hx, length_join, length_mroot, length_mleaf, length_zsum]) (by decide)) rfl ?_
        rintro _ w ⟨b41, rfl, S⟩
        have hS := trivial
        refine ⟨hS, ?_⟩
        refine q_does (d_append S 1 rfl rfl Try.underlying24 el29 rfl rfl (S.rdRw 0 rfl rfl) (by first | exact bv_one _ | exact sv_one _ | exact iv_one _ | with_reducible assumption | (refine One.mem ?_; repeat (first | exact One.bv _ | exact One.sv _ | exact One.iv _ | exact One.nil | exact One.cat0 | refine One.cat1 ?_ ?_ | refine One.cons rfl ?_ | refine One.append ?_ ?_))) (by first | omega | (simp only [List.length_append, List.length_cons, List.length_nil, bv_length, length_join, length_mroot, length_mleaf, length_zsum]; omega) | (simp [cat, length_join, length_mroot, length_mleaf, length_zsum]; omega)) (by unfold maxLen; first | omega | (simp only [List.length_append, List.length_cons, List.length_nil, bv_length, length_join, length_mroot, length_mleaf, length_zsum]; omega))) rfl ?_
        rintro _ w ⟨k42, c42, rfl, S⟩
        have hS := trivial
        refine ⟨hS, ?_⟩
        refine q_nil ?_
        refine p_val (e_assign (v := .slice _ _ _) rfl) rfl ?_
        refine p_nil (x_then (s_ret ?_))
        exact post1 (v := .slice _ _ _) Try.results47 rfl (by rw [mrecP_hi (l := L) (a := a) (by omega) (by omega), hh]; exact ⟨_, _, by rw [List.length_append]; rfl, by rw [List.length_append, sv_append]; exact S.pk [1] rfl⟩)
theorem l3path_n : ∀ (q : Nat) (w0 : World) (ai : Int) (a : Nat) (hai : ai = (a : Int)) (A : Option Addr) (n c : Nat) (L : List (List Nat)) (R : Rd w0 32 A n (sv L)) (hL : All32 L) (hl : L.length = n) (cR : n ≤ c) (hn : n ≤ 1000000) (ha : a < n) (hq : n = q), Ret Try.prog 47 [.slice A n c, .int .i64 ai] w0 fun v w' => ∃ k c2, v = .slice (at_ k) (mrecP L a).length c2 ∧ St w0 w' [] [k] [Rw 29 32 (mrecP L a).length c2 (sv (mrecP L a))] := by
  intro q
  induction q using Nat.strongRecOn with
  | _ q ih =>
    intro w0 ai a hai A n c L R hL hl cR hn ha hq
    subst hl
    subst hai
    exact l3path_s q (fun w0 ai a hai A n c L R hL hl cR hn ha hq => ih n hq w0 ai a hai A n c L R hL hl cR hn ha rfl) w0 a A c L R hL cR hn ha hq
theorem l3path (w0 : World) (ai : Int) (a : Nat) (hai : ai = (a : Int)) (A : Option Addr) (n c : Nat) (L : List (List Nat)) (R : Rd w0 32 A n (sv L)) (hL : All32 L) (hl : L.length = n) (cR : n ≤ c) (hn : n ≤ 1000000) (ha : a < n) : Ret Try.prog 47 [.slice A n c, .int .i64 ai] w0 fun v w' => ∃ k c2, v = .slice (at_ k) (mrecP L a).length c2 ∧ St w0 w' [] [k] [Rw 29 32 (mrecP L a).length c2 (sv (mrecP L a))] := l3path_n n w0 ai a hai A n c L R hL hl cR hn ha rfl
theorem l3same (w0 : World) (A A2 : Option Addr) (c c2 : Nat) (L M : List (List Nat)) (R : Rd w0 32 A L.length (sv L)) (hL : All32 L) (R2 : Rd w0 32 A2 M.length (sv M)) (hM : All32 M) (hn : L.length ≤ 1000000) :
    Ret Try.prog 46 [.slice A L.length c, .slice A2 M.length c2] w0 fun v w' => v = .bool (decide (L = M)) ∧ Below w0.heap.size w0 w' := by
  refine enter Try.func46 rfl Try.ntmps46 (Nat.le_of_ble_eq_true rfl) ?_
  have S := St.init w0
  refine s_seq (s_plain ?_)
  refine p_val (e_assign (v := .bool _) rfl) rfl ?_
  refine p_nil (x_then (s_seq (s_seq (s_plain ?_))))
  refine p_val (e_move (v := .slice _ _ _) rfl) rfl ?_
  refine p_val (e_len rfl Try.underlying24) rfl ?_
  refine p_val (e_move (v := .slice _ _ _) rfl) rfl ?_
  refine p_val (e_len rfl Try.underlying24) rfl ?_
  refine p_val (e_neq rfl rfl) rfl ?_
  refine p_nil (x_then ?_)
  refine s_cond rfl (fun hc10 => ?_) (fun hc10 => ?_)
  · refine s_seq (s_plain ?_)
    refine p_val (e_assign (v := .bool _) rfl) rfl ?_
    refine p_nil (x_then (s_ret (x_then_ret ?_)))
    exact post1 (v := .bool _) Try.results46 rfl (⟨by rw [decide_eq_false (fun h => by rw [h] at hc10; omega)], S.to_below⟩)
  · refine s_skip (x_then (s_seq (s_seq (s_plain ?_))))
    refine p_val (e_assign (v := .int _ _) rfl) rfl ?_
    refine p_nil (x_then (s_block ?_))
    refine s_loopK (α := Nat) (ks := []) (ps := []) [(0, .slice _ _ _), (1, .slice _ _ _)] ⟨rfl, rfl, trivial⟩ S (fun keep ks ps g f' w' => ∃ u, f' = upds u ((5, .int .i64 (g : Int)) :: keep) ∧ (g ≤ L.length) ∧ (L.take g = M.take g) ∧ St w0 w' [] [] []) (fun g => L.length - g) (0) (⟨_, upds_eq ⟨rfl, rfl, rfl, trivial⟩, by first | omega | rfl | with_reducible assumption | (simp; done) | (simp; omega), by first | omega | rfl | with_reducible assumption | (simp; done) | (simp; omega), S⟩) ?_
    rintro g f w ⟨u, rfl, hg, he, S⟩
    refine s_seq (s_seq (s_plain ?_))
    refine p_val (e_move (v := .int _ _) rfl) rfl ?_
    refine p_val (e_move (v := .slice _ _ _) rfl) rfl ?_
    refine p_val (e_len rfl Try.underlying24) rfl ?_
    refine p_val (e_lss rfl rfl) rfl ?_
    refine p_nil (x_then ?_)
    refine s_cond rfl (fun hc14 => ?_) (fun hc14 => ?_)
    · refine s_skip (x_then (s_seq (s_block (s_seq ?_))))
      refine s_drawK (ks := []) (ps := []) S [(true, 0), (true, 1), (true, 2), (true, 3), (true, 4), (true, 5), (true, 6), (true, 7), (true, 8)] [] [] mixed (by kernel_rfl) (by repeat (first | exact Calm.post _ _ _ | refine Calm.then ?_ _ | refine Calm.inB ?_ _)) (fun hS => ?_)
      have S := S.drew
      have hg1 : (L.getD (g : Int).toNat []).length = 32 := hL.getD (by omega)
      have hg2 : (M.getD (g : Int).toNat []).length = 32 := hM.getD (by omega)
      refine q_val (fun w hS => e_move (v := .slice _ _ _) rfl) rfl hS ?_
      refine q_val (fun w hS => e_move (v := .int _ _) rfl) rfl hS ?_
      refine q_val (fun w hS => e_ixR (hS.rdOld R rfl) (by decide) rfl rfl Try.underlying24 sz29 (by omega)) rfl hS ?_
      refine q_val (fun w hS => e_loadRA rfl ag29 sz29 (by decide) (Rd.sumA (hS.rdOld R rfl) (by with_reducible assumption) (by omega))) rfl hS ?_
      refine q_val (fun w hS => e_move (v := .slice _ _ _) rfl) rfl hS ?_
      refine q_val (fun w hS => e_move (v := .int _ _) rfl) rfl hS ?_
      refine q_val (fun w hS => e_ixR (hS.rdOld R2 rfl) (by decide) rfl rfl Try.underlying24 sz29 (by omega)) rfl hS ?_
      refine q_val (fun w hS => e_loadRA rfl ag29 sz29 (by decide) (Rd.sumA (hS.rdOld R2 rfl) (by with_reducible assumption) (by omega))) rfl hS ?_
      refine q_val (fun w hS => EqT.sumN eq29 gd29 rfl rfl (by first | with_reducible assumption | (rw [bv_length]; with_reducible assumption) | (rw [List.size_toArray, bv_length]; with_reducible assumption) | (simp [cat, hg1, hg2]; done) | (simp [cat, hg1, hg2]; omega) | rfl) (by first | with_reducible assumption | (rw [bv_length]; with_reducible assumption) | (rw [List.size_toArray, bv_length]; with_reducible assumption) | (simp [cat, hg1, hg2]; done) | (simp [cat, hg1, hg2]; omega) | rfl)) rfl hS ?_
      refine q_nil (p_nil (x_then ?_))
      refine s_cond rfl (fun hc25 => ?_) (fun hc25 => ?_)
      · refine s_seq (s_plain ?_)
        refine p_val (e_assign (v := .bool _) rfl) rfl ?_
        refine p_nil (x_then (s_ret (x_in_ret (x_then_ret (x_then_ret (x_in_ret (x_then_ret ?_)))))))
        exact post1 (v := .bool _) Try.results46 rfl (⟨by rw [decide_eq_false (fun h => by subst h; simp at hc25)], S.to_below⟩)
      · refine s_skip (x_in (x_then (s_plain ?_)))
        refine p_val (e_move (v := .int _ _) rfl) rfl ?_
        refine p_val (e_add64 rfl rfl (by omega)) rfl ?_
        refine p_val (e_assign (v := .int _ _) rfl) rfl ?_
        refine p_nil ?_
        refine x_round (g + 1) _ rfl ⟨_, upds_eq ⟨rfl, rfl, rfl, trivial⟩, by first | omega | rfl | with_reducible assumption | (simp; done) | (simp; omega), by rw [take_getD (by omega), take_getD (by omega), he, show L.getD g [] = M.getD g [] by simpa [Int.toNat_natCast] using hc25], S⟩ (by omega)
    · refine s_exit (x_then_exit (x_then_exit (x_in_same (x_then (s_seq (s_plain ?_))))))
      refine p_val (e_assign (v := .bool _) rfl) rfl ?_
      refine p_nil (x_then (s_ret ?_))
      exact post1 (v := .bool _) Try.results46 rfl (⟨by rw [decide_eq_true (by rw [← List.take_of_length_le (l := L) (show L.length ≤ g by omega), he, List.take_of_length_le (by omega)])], S.to_below⟩)
theorem l3climb (w0 : World) (s : List Nat) (a m : Int) (A : Option Addr) (c : Nat) (P : List (List Nat)) (hs : s.length = 32) (R : Rd w0 32 A P.length (sv P)) (hP : All32 P) (hpn : P.length ≤ 1000000) (ha : 0 ≤ a) (ham : a < m) (hm : m ≤ 4096) :
    Ret Try.prog 40 [.agg (bv s).toArray, .int .i64 a, .int .i64 m, .slice A P.length c] w0 fun v w' => ∃ x b, v = .tuple #[.agg (bv x).toArray, .bool b] ∧ x.length = 32 ∧ climbC (mleaf s) a.toNat m.toNat P = (if b = true then some x else none) ∧ Below w0.heap.size w0 w' := by
  refine enter Try.func40 rfl Try.ntmps40 (Nat.le_of_ble_eq_true rfl) ?_
  have S := St.init w0
  refine s_seq (s_plain ?_)
  refine p_does (d_boxA S rfl) rfl ?_
  rintro _ w ⟨b4, rfl, S⟩
  refine p_does (d_allocA S zvS) rfl ?_
  rintro _ w ⟨b8, rfl, S⟩
  refine p_val (e_assign (v := .bool _) rfl) rfl ?_
  refine p_nil (x_then (s_seq (s_plain ?_)))
  refine p_val (e_loadW 1 rfl ag29 sz29 S rfl rfl (by first | with_reducible assumption | (rw [bv_length]; with_reducible assumption) | (rw [List.size_toArray, bv_length]; with_reducible assumption) | (simp [cat, length_join, length_mleaf, length_mpair, hs, length_zsum]; done) | (simp [cat, length_join, length_mleaf, length_mpair, hs, length_zsum]; omega) | rfl)) rfl ?_
  refine p_does (d_call Try.func45 nm45 rfl rfl (l3leaf _ _ (by first | with_reducible assumption | (rw [bv_length]; with_reducible assumption) | (rw [List.size_toArray, bv_length]; with_reducible assumption) | (simp [cat, length_join, length_mleaf, length_mpair, hs, length_zsum]; done) | (simp [cat, length_join, length_mleaf, length_mpair, hs, length_zsum]; omega) | rfl))) rfl ?_
  rintro _ w ⟨rfl, hB⟩
  have S := S.below hB
  refine p_does (d_allocA S zvS) rfl ?_
  rintro _ w ⟨b10, rfl, S⟩
  refine p_does (d_storeW S 0 rfl rfl (by first | exact bv_one _ | exact sv_one _ | exact iv_one _ | with_reducible assumption | (refine One.mem ?_; repeat (first | exact One.bv _ | exact One.sv _ | exact One.iv _ | exact One.nil | exact One.cat0 | refine One.cat1 ?_ ?_ | refine One.cons rfl ?_ | refine One.append ?_ ?_))) sz29 (by first | with_reducible assumption | (rw [bv_length]; with_reducible assumption) | (rw [List.size_toArray, bv_length]; with_reducible assumption) | (simp [cat, length_join, length_mleaf, length_mpair, hs, length_zsum]; done) | (simp [cat, length_join, length_mleaf, length_mpair, hs, length_zsum]; omega) | rfl) rfl rfl (by first | with_reducible assumption | (rw [bv_length]; with_reducible assumption) | (rw [List.size_toArray, bv_length]; with_reducible assumption) | (simp [cat, length_join, length_mleaf, length_mpair, hs, length_zsum]; done) | (simp [cat, length_join, length_mleaf, length_mpair, hs, length_zsum]; omega) | rfl)) rfl ?_
  intro _ w S
  refine p_nil (x_then (s_seq (s_plain ?_)))
  refine p_val (e_assign (v := .int _ _) rfl) rfl ?_
  refine p_nil (x_then (s_seq (s_seq (s_plain ?_))))
  refine p_val (e_assign (v := .int _ _) rfl) rfl ?_
  refine p_nil (x_then (s_block ?_))
  obtain ⟨a0, rfl⟩ : ∃ b0 : Nat, a = (b0 : Int) := ⟨a.toNat, by omega⟩
  obtain ⟨m0, rfl⟩ : ∃ b0 : Nat, m = (b0 : Int) := ⟨m.toNat, by omega⟩
  refine s_loopK (α := Nat) (ks := [some b10, some b8, some b4]) (ps := [Ex _ _, Ex _ _, Ex _ _]) [(3, .slice _ _ _), (8, .pointer _), (10, .pointer _)] ⟨rfl, rfl, rfl, trivial⟩ S (fun keep ks ps g f' w' => ∃ u b n k now, f' = upds u ((1, .int .i64 ((b : Nat) : Int)) :: (2, .int .i64 ((n : Nat) : Int)) :: (11, .int .i64 ((k : Nat) : Int)) :: (12, .int .i64 (g : Int)) :: keep) ∧ (now.length = 32) ∧ (g ≤ 12) ∧ (b < n) ∧ (n ≤ 2 ^ (12 - g)) ∧ (n ≤ 4096) ∧ (k ≤ P.length) ∧ (climbC now b n (P.drop k) = climbC (mleaf s) a0 m0 P) ∧ St w0 w' [] [some b10, some b8, some b4] [Ex (bv now).toArray 29, Ex (bv zsum).toArray 29, (ps.getD 2 fun _ => True)]) (fun g => 13 - g) (0) (⟨_, a0,  m0,  0,  _, upds_eq ⟨rfl, rfl, rfl, rfl, rfl, rfl, rfl, trivial⟩, length_mleaf s, by first | omega | rfl | with_reducible assumption | (simp; done) | (simp; omega), by first | omega | rfl | with_reducible assumption | (simp; done) | (simp; omega), by first | omega | rfl | with_reducible assumption | (simp; done) | (simp; omega), by first | omega | rfl | with_reducible assumption | (simp; done) | (simp; omega), by first | omega | rfl | with_reducible assumption | (simp; done) | (simp; omega), by first | omega | rfl | with_reducible assumption | (simp; done) | (simp; omega), S⟩) ?_
  rintro g f w ⟨u, b, n, k, now, rfl, hnl, hg, hb, hn, hn2, hk, hc, S⟩
  refine s_seq (s_seq ?_)
  refine s_cutK (ks := [some b10, some b8, some b4]) (ps := [Ex _ _, Ex _ _, Ex _ _]) [(1, .int _ _), (2, .int _ _), (3, .slice _ _ _), (8, .pointer _), (10, .pointer _), (11, .int _ _), (12, .int _ _)] ⟨rfl, rfl, rfl, rfl, rfl, rfl, rfl, trivial⟩ S (fun keep ks ps f' w' => ∃ u bb, f' = upds u ((21, .bool bb) :: keep) ∧ (bb = true ↔ (((g : Int) < (13 : Int)) ∧ ((1 : Int) < ((n : Nat) : Int)))) ∧ St w0 w' [] ks ps) ?_ ?_
  · refine s_plain ?_
    refine p_val (e_move (v := .int _ _) rfl) rfl ?_
    refine p_valB (e_lss rfl rfl) rfl (fun hg17 => ?_) (fun hg17 => ?_)
    · refine p_val (e_move (v := .bool _) rfl) rfl ?_
      refine pg_val rfl rfl rfl rfl rfl (e_move (v := .int _ _) rfl) ?_
      refine pg_val rfl rfl rfl rfl rfl (e_gtr rfl rfl) ?_
      refine p_val (e_pick_t rfl rfl) rfl ?_
      exact p_nil (x_then ⟨_, rfl, _, _, upds_eq ⟨rfl, rfl, rfl, rfl, rfl, rfl, rfl, rfl, trivial⟩, by first | (simp only [decide_eq_true_eq, eq_self, true_iff, iff_true, iff_false, Bool.false_eq_true, false_iff, ge_iff_le, gt_iff_lt, true_and, and_true, false_and, and_false, true_or, or_true, false_or, or_false, not_true_eq_false, not_false_eq_true]; omega) | simp | omega | simp_all, S⟩)
    · refine p_val (e_move (v := .bool _) rfl) rfl ?_
      refine p_no rfl rfl rfl rfl rfl ?_
      refine p_no rfl rfl rfl rfl rfl ?_
      refine p_val (e_pick_f rfl rfl) rfl ?_
      exact p_nil (x_then ⟨_, rfl, _, _, upds_eq ⟨rfl, rfl, rfl, rfl, rfl, rfl, rfl, rfl, trivial⟩, by first | (simp only [decide_eq_true_eq, eq_self, true_iff, iff_true, iff_false, Bool.false_eq_true, false_iff, ge_iff_le, gt_iff_lt, true_and, and_true, false_and, and_false, true_or, or_true, false_or, or_false, not_true_eq_false, not_false_eq_true]; omega) | simp | omega | simp_all, S⟩)
  · rintro f w ⟨u, b21, rfl, hb21, S⟩
    refine x_then ?_
    refine s_condb rfl (fun hc21 => ?_) (fun hc21 => ?_)
    · have hp21 : (((g : Int) < (13 : Int)) ∧ ((1 : Int) < ((n : Nat) : Int))) := hb21.1 hc21
      refine s_skip (x_then (s_seq (s_block (s_seq (s_plain ?_)))))
      have hg11 : g < 12 := by { by_cases h9 : g < 12; { exact h9 }; { rw [show 12 - g = 0 by omega] at hn; omega } }
      refine p_val (e_move (v := .int _ _) rfl) rfl ?_
      refine p_val (e_add64 rfl rfl (by omega)) rfl ?_
      refine p_val (e_move (v := .int _ _) rfl) rfl ?_
      refine p_val (e_rem64 rfl rfl (by omega)) rfl ?_
      refine p_val (e_mul64 rfl rfl (by omega)) rfl ?_
      refine p_val (e_sub64 rfl rfl (by omega)) rfl ?_
      refine p_val (e_assign (v := .int _ _) rfl) rfl ?_
      refine p_nil (x_then (s_seq ?_))
      refine s_cutK (ks := [some b10, some b8, some b4]) (ps := [Ex _ _, Ex _ _, Ex _ _]) [(1, .int _ _), (2, .int _ _), (3, .slice _ _ _), (8, .pointer _), (10, .pointer _), (12, .int _ _)] ⟨rfl, rfl, rfl, rfl, rfl, rfl, trivial⟩ S (fun keep ks ps f' w' => ∃ u k2 now2, f' = upds u ((11, .int .i64 ((k2 : Nat) : Int)) :: keep) ∧ (now2.length = 32) ∧ (k2 ≤ P.length) ∧ (climbC now2 (b / 2) ((n + 1) / 2) (P.drop k2) = climbC now b n (P.drop k)) ∧ St w0 w' [] [some b10, some b8, some b4] [Ex (bv now2).toArray 29, Ex (bv zsum).toArray 29, (ps.getD 2 fun _ => True)]) ?_ ?_
      · refine s_seq (s_plain ?_)
        refine p_val (e_move (v := .int _ _) rfl) rfl ?_
        refine p_val (e_move (v := .int _ _) rfl) rfl ?_
        refine p_val (e_lss rfl rfl) rfl ?_
        refine p_nil (x_then ?_)
        refine s_cond rfl (fun hc32 => ?_) (fun hc32 => ?_)
        · refine s_seq (s_seq (s_plain ?_))
          refine p_val (e_move (v := .int _ _) rfl) rfl ?_
          refine p_val (e_move (v := .slice _ _ _) rfl) rfl ?_
          refine p_val (e_len rfl Try.underlying24) rfl ?_
          refine p_val (e_geq rfl rfl) rfl ?_
          refine p_nil (x_then ?_)
          refine s_cond rfl (fun hc36 => ?_) (fun hc36 => ?_)
          · refine s_seq (s_plain ?_)
            refine p_val (e_loadW 0 rfl ag29 sz29 S rfl rfl (by first | with_reducible assumption | (rw [bv_length]; with_reducible assumption) | (rw [List.size_toArray, bv_length]; with_reducible assumption) | (simp [cat, length_join, length_mleaf, length_mpair, hs, length_zsum]; done) | (simp [cat, length_join, length_mleaf, length_mpair, hs, length_zsum]; omega) | rfl)) rfl ?_
            refine p_does (d_storeW S 1 rfl rfl (by first | exact bv_one _ | exact sv_one _ | exact iv_one _ | with_reducible assumption | (refine One.mem ?_; repeat (first | exact One.bv _ | exact One.sv _ | exact One.iv _ | exact One.nil | exact One.cat0 | refine One.cat1 ?_ ?_ | refine One.cons rfl ?_ | refine One.append ?_ ?_))) sz29 (by first | with_reducible assumption | (rw [bv_length]; with_reducible assumption) | (rw [List.size_toArray, bv_length]; with_reducible assumption) | (simp [cat, length_join, length_mleaf, length_mpair, hs, length_zsum]; done) | (simp [cat, length_join, length_mleaf, length_mpair, hs, length_zsum]; omega) | rfl) rfl rfl (by first | with_reducible assumption | (rw [bv_length]; with_reducible assumption) | (rw [List.size_toArray, bv_length]; with_reducible assumption) | (simp [cat, length_join, length_mleaf, length_mpair, hs, length_zsum]; done) | (simp [cat, length_join, length_mleaf, length_mpair, hs, length_zsum]; omega) | rfl)) rfl ?_
            intro _ w S
            refine p_val (e_assign (v := .bool _) rfl) rfl ?_
            refine p_nil (x_then (s_ret (x_then_ret (x_then_ret (x_then_ret (x_in_ret (x_then_ret (x_then_ret (x_in_ret (x_then_ret ?_))))))))))
            exact postC1 (v := .bool _) Try.results40 S 1 rfl rfl rfl rfl ag29 sz29 (by first | with_reducible assumption | (rw [bv_length]; with_reducible assumption) | (rw [List.size_toArray, bv_length]; with_reducible assumption) | (simp [cat, length_join, length_mleaf, length_mpair, hs, length_zsum]; done) | (simp [cat, length_join, length_mleaf, length_mpair, hs, length_zsum]; omega) | rfl) (⟨_, _, rfl, hnl, by rw [Int.toNat_natCast, Int.toNat_natCast, ← hc, List.drop_of_length_le (by omega), climbC_nil (by omega) (by unfold sidx; split <;> omega)]; rfl, S.to_below⟩)
          · refine s_skip (x_then (s_seq ?_))
            refine s_cutK (ks := [some b10, some b8, some b4]) (ps := [Ex _ _, Ex _ _, Ex _ _]) [(1, .int _ _), (2, .int _ _), (3, .slice _ _ _), (8, .pointer _), (10, .pointer _), (11, .int _ _), (12, .int _ _)] ⟨rfl, rfl, rfl, rfl, rfl, rfl, rfl, trivial⟩ S (fun keep ks ps f' w' => ∃ u now3, f' = upds u (keep) ∧ (now3.length = 32) ∧ (now3 = if b % 2 = 0 then mpair now (P.getD k []) else mpair (P.getD k []) now) ∧ St w0 w' [] [some b10, some b8, some b4] [Ex (bv now3).toArray 29, (ps.getD 1 fun _ => True), (ps.getD 2 fun _ => True)]) ?_ ?_
            · refine s_seq (s_plain ?_)
              have hp32 : (P.getD (k : Int).toNat []).length = 32 := hP.getD (by omega)
              refine p_val (e_move (v := .int _ _) rfl) rfl ?_
              refine p_val (e_rem64 rfl rfl (by omega)) rfl ?_
              refine p_val (e_eql rfl rfl) rfl ?_
              refine p_nil (x_then ?_)
              refine s_cond rfl (fun hc40 => ?_) (fun hc40 => ?_)
              · refine s_drawK (ks := [some b10, some b8, some b4]) (ps := [Ex _ _, Ex _ _, Ex _ _]) S [(true, 0), (true, 1), (true, 2), (true, 3), (true, 4), (false, 5)] [6] [6] mixed (by kernel_rfl) (by repeat (first | exact Calm.post _ _ _ | refine Calm.then ?_ _ | refine Calm.inB ?_ _)) (fun hS => ?_)
                have S := S.drew
                refine q_val (fun w hS => e_loadW 0 rfl ag29 sz29 hS rfl rfl (by first | with_reducible assumption | (rw [bv_length]; with_reducible assumption) | (rw [List.size_toArray, bv_length]; with_reducible assumption) | (simp [cat, length_join, length_mleaf, length_mpair, hs, length_zsum]; done) | (simp [cat, length_join, length_mleaf, length_mpair, hs, length_zsum]; omega) | rfl)) rfl hS ?_
                refine q_val (fun w hS => e_move (v := .slice _ _ _) rfl) rfl hS ?_
                refine q_val (fun w hS => e_move (v := .int _ _) rfl) rfl hS ?_
                refine q_val (fun w hS => e_ixR (hS.rdOld R rfl) (by decide) rfl rfl Try.underlying24 sz29 (by omega)) rfl hS ?_
                refine q_val (fun w hS => e_loadRA rfl ag29 sz29 (by decide) (Rd.sumA (hS.rdOld R rfl) (by with_reducible assumption) (by omega))) rfl hS ?_
                refine q_does (d_call Try.func85 nm85 rfl rfl (pair_calls _ 2 _ _ (by first | with_reducible assumption | (rw [bv_length]; with_reducible assumption) | (rw [List.size_toArray, bv_length]; with_reducible assumption) | (simp [cat, length_join, length_mleaf, length_mpair, hs, length_zsum]; done) | (simp [cat, length_join, length_mleaf, length_mpair, hs, length_zsum]; omega) | rfl) hp32)) rfl ?_
                rintro _ w ⟨rfl, hB⟩
                have S := S.below hB
                have hS := S.pk [0, 1, 2] rfl
                refine ⟨hS, ?_⟩
                refine q_nil ?_
                refine p_does (d_storeW S 0 rfl rfl (by first | exact bv_one _ | exact sv_one _ | exact iv_one _ | with_reducible assumption | (refine One.mem ?_; repeat (first | exact One.bv _ | exact One.sv _ | exact One.iv _ | exact One.nil | exact One.cat0 | refine One.cat1 ?_ ?_ | refine One.cons rfl ?_ | refine One.append ?_ ?_))) sz29 (by first | with_reducible assumption | (rw [bv_length]; with_reducible assumption) | (rw [List.size_toArray, bv_length]; with_reducible assumption) | (simp [cat, length_join, length_mleaf, length_mpair, hs, length_zsum]; done) | (simp [cat, length_join, length_mleaf, length_mpair, hs, length_zsum]; omega) | rfl) rfl rfl (by first | with_reducible assumption | (rw [bv_length]; with_reducible assumption) | (rw [List.size_toArray, bv_length]; with_reducible assumption) | (simp [cat, length_join, length_mleaf, length_mpair, hs, length_zsum]; done) | (simp [cat, length_join, length_mleaf, length_mpair, hs, length_zsum]; omega) | rfl)) rfl ?_
                intro _ w S
                refine p_nil ?_
                exact x_then ⟨_, rfl, _, _, upds_eq ⟨rfl, rfl, rfl, rfl, rfl, rfl, rfl, trivial⟩, length_join _ _, by rw [if_pos (by omega), Int.toNat_natCast]; rfl, S⟩
              · refine s_drawK (ks := [some b10, some b8, some b4]) (ps := [Ex _ _, Ex _ _, Ex _ _]) S [(true, 0), (true, 1), (true, 2), (true, 3), (true, 4), (false, 5)] [6] [6] mixed (by kernel_rfl) (by repeat (first | exact Calm.post _ _ _ | refine Calm.then ?_ _ | refine Calm.inB ?_ _)) (fun hS => ?_)
                have S := S.drew
                refine q_val (fun w hS => e_move (v := .slice _ _ _) rfl) rfl hS ?_
                refine q_val (fun w hS => e_move (v := .int _ _) rfl) rfl hS ?_
                refine q_val (fun w hS => e_ixR (hS.rdOld R rfl) (by decide) rfl rfl Try.underlying24 sz29 (by omega)) rfl hS ?_
                refine q_val (fun w hS => e_loadRA rfl ag29 sz29 (by decide) (Rd.sumA (hS.rdOld R rfl) (by with_reducible assumption) (by omega))) rfl hS ?_
                refine q_val (fun w hS => e_loadW 0 rfl ag29 sz29 hS rfl rfl (by first | with_reducible assumption | (rw [bv_length]; with_reducible assumption) | (rw [List.size_toArray, bv_length]; with_reducible assumption) | (simp [cat, length_join, length_mleaf, length_mpair, hs, length_zsum]; done) | (simp [cat, length_join, length_mleaf, length_mpair, hs, length_zsum]; omega) | rfl)) rfl hS ?_
                refine q_does (d_call Try.func85 nm85 rfl rfl (pair_calls _ 2 _ _ hp32 (by first | with_reducible assumption | (rw [bv_length]; with_reducible assumption) | (rw [List.size_toArray, bv_length]; with_reducible assumption) | (simp [cat, length_join, length_mleaf, length_mpair, hs, length_zsum]; done) | (simp [cat, length_join, length_mleaf, length_mpair, hs, length_zsum]; omega) | rfl))) rfl ?_
                rintro _ w ⟨rfl, hB⟩
                have S := S.below hB
                have hS := S.pk [0, 1, 2] rfl
                refine ⟨hS, ?_⟩
                refine q_nil ?_
                refine p_does (d_storeW S 0 rfl rfl (by first | exact bv_one _ | exact sv_one _ | exact iv_one _ | with_reducible assumption | (refine One.mem ?_; repeat (first | exact One.bv _ | exact One.sv _ | exact One.iv _ | exact One.nil | exact One.cat0 | refine One.cat1 ?_ ?_ | refine One.cons rfl ?_ | refine One.append ?_ ?_))) sz29 (by first | with_reducible assumption | (rw [bv_length]; with_reducible assumption) | (rw [List.size_toArray, bv_length]; with_reducible assumption) | (simp [cat, length_join, length_mleaf, length_mpair, hs, length_zsum]; done) | (simp [cat, length_join, length_mleaf, length_mpair, hs, length_zsum]; omega) | rfl) rfl rfl (by first | with_reducible assumption | (rw [bv_length]; with_reducible assumption) | (rw [List.size_toArray, bv_length]; with_reducible assumption) | (simp [cat, length_join, length_mleaf, length_mpair, hs, length_zsum]; done) | (simp [cat, length_join, length_mleaf, length_mpair, hs, length_zsum]; omega) | rfl)) rfl ?_
                intro _ w S
                refine p_nil ?_
                exact x_then ⟨_, rfl, _, _, upds_eq ⟨rfl, rfl, rfl, rfl, rfl, rfl, rfl, trivial⟩, length_join _ _, by rw [if_neg (by omega), Int.toNat_natCast]; rfl, S⟩
            · rintro f w ⟨u, now3, rfl, hnl3, h3, S⟩
              refine x_then (s_plain ?_)
              refine p_val (e_move (v := .int _ _) rfl) rfl ?_
              refine p_val (e_add64 rfl rfl (by omega)) rfl ?_
              refine p_val (e_assign (v := .int _ _) rfl) rfl ?_
              refine p_nil ?_
              exact x_then ⟨_, rfl, _, k + 1,  _, upds_eq ⟨rfl, rfl, rfl, rfl, rfl, rfl, rfl, trivial⟩, hnl3, by first | omega | rfl | with_reducible assumption | (simp; done) | (simp; omega), by rw [drop_getD (show k < P.length by omega), climbC_cons (by omega) (by unfold sidx; split <;> omega), h3], S⟩
        · refine s_skip ?_
          exact x_then ⟨_, rfl, _, k,  _, upds_eq ⟨rfl, rfl, rfl, rfl, rfl, rfl, rfl, trivial⟩, hnl, by first | omega | rfl | with_reducible assumption | (simp; done) | (simp; omega), (climbC_no (by omega) (by unfold sidx; split <;> omega)).symm, S⟩
      · rintro f w ⟨u, k2, now2, rfl, hnl2, hk2, hc2, S⟩
        refine x_then (s_seq (s_plain ?_))
        refine p_val (e_move (v := .int _ _) rfl) rfl ?_
        refine p_val (e_quo64 rfl rfl (by omega)) rfl ?_
        refine p_val (e_assign (v := .int _ _) rfl) rfl ?_
        refine p_nil (x_then (s_plain ?_))
        refine p_val (e_move (v := .int _ _) rfl) rfl ?_
        refine p_val (e_add64 rfl rfl (by omega)) rfl ?_
        refine p_val (e_quo64 rfl rfl (by omega)) rfl ?_
        refine p_val (e_assign (v := .int _ _) rfl) rfl ?_
        refine p_nil (x_in (x_then (s_plain ?_)))
        refine p_val (e_move (v := .int _ _) rfl) rfl ?_
        refine p_val (e_add64 rfl rfl (by omega)) rfl ?_
        refine p_val (e_assign (v := .int _ _) rfl) rfl ?_
        refine p_nil ?_
        refine x_round (g + 1) _ rfl ⟨_, b / 2,  (n + 1) / 2,  k2,  _, upds_eq ⟨rfl, rfl, rfl, rfl, rfl, rfl, rfl, trivial⟩, hnl2, by first | omega | rfl | with_reducible assumption | (simp; done) | (simp; omega), by first | omega | rfl | with_reducible assumption | (simp; done) | (simp; omega), by have e0 : 2 ^ (12 - g) = 2 * 2 ^ (12 - (g + 1)) := by { rw [← Nat.pow_succ']; congr 1; omega }; omega, by first | omega | rfl | with_reducible assumption | (simp; done) | (simp; omega), by first | omega | rfl | with_reducible assumption | (simp; done) | (simp; omega), by rw [hc2]; exact hc, S⟩ (by omega)
    · have hp21 : ¬ (((g : Int) < (13 : Int)) ∧ ((1 : Int) < ((n : Nat) : Int))) := fun h => by rw [hb21.2 h] at hc21; cases hc21
      refine s_exit (x_then_exit (x_then_exit (x_in_same (x_then (s_seq (s_plain ?_))))))
      have hn1 : n ≤ 1 := by { by_cases h9 : g < 12; { omega }; { rw [show 12 - g = 0 by omega] at hn; exact hn } }
      refine p_val (e_loadW 0 rfl ag29 sz29 S rfl rfl (by first | with_reducible assumption | (rw [bv_length]; with_reducible assumption) | (rw [List.size_toArray, bv_length]; with_reducible assumption) | (simp [cat, length_join, length_mleaf, length_mpair, hs, length_zsum]; done) | (simp [cat, length_join, length_mleaf, length_mpair, hs, length_zsum]; omega) | rfl)) rfl ?_
      refine p_val (e_move (v := .int _ _) rfl) rfl ?_
      refine p_val (e_move (v := .slice _ _ _) rfl) rfl ?_
      refine p_val (e_len rfl Try.underlying24) rfl ?_
      refine p_val (e_eql rfl rfl) rfl ?_
      refine p_does (d_storeW S 1 rfl rfl (by first | exact bv_one _ | exact sv_one _ | exact iv_one _ | with_reducible assumption | (refine One.mem ?_; repeat (first | exact One.bv _ | exact One.sv _ | exact One.iv _ | exact One.nil | exact One.cat0 | refine One.cat1 ?_ ?_ | refine One.cons rfl ?_ | refine One.append ?_ ?_))) sz29 (by first | with_reducible assumption | (rw [bv_length]; with_reducible assumption) | (rw [List.size_toArray, bv_length]; with_reducible assumption) | (simp [cat, length_join, length_mleaf, length_mpair, hs, length_zsum]; done) | (simp [cat, length_join, length_mleaf, length_mpair, hs, length_zsum]; omega) | rfl) rfl rfl (by first | with_reducible assumption | (rw [bv_length]; with_reducible assumption) | (rw [List.size_toArray, bv_length]; with_reducible assumption) | (simp [cat, length_join, length_mleaf, length_mpair, hs, length_zsum]; done) | (simp [cat, length_join, length_mleaf, length_mpair, hs, length_zsum]; omega) | rfl)) rfl ?_
      intro _ w S
      refine p_val (e_assign (v := .bool _) rfl) rfl ?_
      refine p_nil (x_then (s_ret ?_))
      exact postC1 (v := .bool _) Try.results40 S 1 rfl rfl rfl rfl ag29 sz29 (by first | with_reducible assumption | (rw [bv_length]; with_reducible assumption) | (rw [List.size_toArray, bv_length]; with_reducible assumption) | (simp [cat, length_join, length_mleaf, length_mpair, hs, length_zsum]; done) | (simp [cat, length_join, length_mleaf, length_mpair, hs, length_zsum]; omega) | rfl) (⟨_, _, rfl, hnl, by rw [Int.toNat_natCast, Int.toNat_natCast, ← hc, climbC_end hn1]; by_cases h8 : k = P.length; { rw [List.drop_of_length_le (by omega), if_pos (by simp [h8])] }; { rw [drop_getD (show k < P.length by omega), if_neg (by simp; omega)] }, S.to_below⟩)
end Go.Proofs.Ytdhfiamgmokfbaa

/- A block's sum, so written that the kernel carries it out fast, and that it is the block's sum. It proves no statement by itself. -/
set_option linter.unusedSimpArgs false
set_option linter.unusedVariables false
namespace Go.Proofs.Ytdhfiamgmokfbaa
open E
/-- the words, the newest first -/
def grow : Nat → List Nat → List Nat
  | 0, l => l
  | n + 1, l =>
    let x := l.getD 14 0
    let y := l.getD 1 0
    grow n (add32 (add32 (add32 (l.getD 15 0) (xor32 (xor32 (rotr 7 x) (rotr 18 x)) (shr32 x 3))) (l.getD 6 0)) (xor32 (xor32 (rotr 17 y) (rotr 19 y)) (shr32 y 10)) :: l)
def run : List (Nat × Nat) → St8 → St8
  | [], v => v
  | (k, w) :: l, v => run l (rnd v k w)
def words (b : List Nat) : List Nat := (List.range 16).map (word b)
def blockQ (h : St8) (b : List Nat) : St8 := add8 h (run (K.zip (grow 48 (words b).reverse).reverse) h)
theorem run_append : ∀ (a b : List (Nat × Nat)) (v : St8), run (a ++ b) v = run b (run a v)
  | [], _, _ => rfl
  | (k, w) :: a, b, v => run_append a b (rnd v k w)
theorem rounds_run (ws : List Nat) (v : St8) (hw : ws.length = 64) : ∀ n, n ≤ 64 → rounds ws v n = run ((K.zip ws).take n) v
  | 0, _ => by simp [rounds, run]
  | n + 1, h => by
    have hl : n < (K.zip ws).length := by rw [List.length_zip, hw]; simp only [K, List.length_cons, List.length_nil]; omega
    have hk : n < K.length := by simp only [K, List.length_cons, List.length_nil]; omega
    rw [rounds, rounds_run ws v hw n (by omega), List.take_add_one, List.getElem?_eq_getElem hl, List.getElem_zip, run_append]
    simp only [Option.toList, run, List.getD_eq_getElem?_getD, List.getElem?_eq_getElem hk, List.getElem?_eq_getElem (show n < ws.length by omega), Option.getD_some]
def stepQ (l : List Nat) : Nat :=
  let x := l.getD 14 0
  let y := l.getD 1 0
  add32 (add32 (add32 (l.getD 15 0) (xor32 (xor32 (rotr 7 x) (rotr 18 x)) (shr32 x 3))) (l.getD 6 0)) (xor32 (xor32 (rotr 17 y) (rotr 19 y)) (shr32 y 10))
theorem rev_getD (l : List Nat) (n i j : Nat) (h : i + j + 1 = n) (hl : n ≤ l.length) : ((l.take n).reverse).getD i 0 = l.getD j 0 := by
  rw [List.getD_eq_getElem?_getD, List.getD_eq_getElem?_getD, List.getElem?_reverse (by rw [List.length_take]; omega), List.length_take, List.getElem?_take, if_pos (by omega)]
  congr 2
  omega
theorem stepQ_eq (b : List Nat) (j : Nat) (hj : j < 48) : stepQ ((sp2 b j).take (16 + j)).reverse = nxt (sp2 b j) (16 + j) := by
  have hl := length_sp2 b j
  unfold stepQ nxt
  rw [rev_getD _ _ 14 (16 + j - 15) (by omega) (by omega), rev_getD _ _ 1 (16 + j - 2) (by omega) (by omega), rev_getD _ _ 15 (16 + j - 16) (by omega) (by omega), rev_getD _ _ 6 (16 + j - 7) (by omega) (by omega)]
theorem grow_eq (b : List Nat) : ∀ n j, j + n ≤ 48 → grow n ((sp2 b j).take (16 + j)).reverse = ((sp2 b (j + n)).take (16 + j + n)).reverse
  | 0, j, _ => rfl
  | n + 1, j, h => by
    have hl := length_sp2 b j
    have e : stepQ ((sp2 b j).take (16 + j)).reverse :: ((sp2 b j).take (16 + j)).reverse = ((sp2 b (j + 1)).take (16 + (j + 1))).reverse := by
      rw [stepQ_eq b j (by omega), ← List.reverse_concat]
      congr 1
      show _ = ((sp2 b j).set (16 + j) (nxt (sp2 b j) (16 + j))).take (16 + j + 1)
      rw [List.take_add_one, List.take_set_of_le (by omega), List.getElem?_set_self (by omega)]
      rfl
    show grow n (stepQ ((sp2 b j).take (16 + j)).reverse :: ((sp2 b j).take (16 + j)).reverse) = _
    rw [e, grow_eq b n (j + 1) (by omega), show j + 1 + n = j + (n + 1) by omega, show 16 + (j + 1) + n = 16 + j + (n + 1) by omega]
theorem words_eq (b : List Nat) : words b = (sp1 b 16).take 16 := rfl
theorem block_eq (h : St8) (b : List Nat) : block h b = blockQ h b := by
  have e := grow_eq b 48 0 (by omega)
  have hl := length_sp2 b 48
  unfold block blockQ
  rw [rounds_run _ _ (length_spread b) 64 (by omega), words_eq]
  have e2 : (grow 48 ((sp1 b 16).take 16).reverse).reverse = spread b := by
    have e3 : grow 48 ((sp1 b 16).take 16).reverse = ((sp2 b 48).take 64).reverse := e
    rw [e3, List.reverse_reverse, List.take_of_length_le (by omega)]
    rfl
  rw [e2, List.take_of_length_le (by rw [List.length_zip, length_spread]; simp only [K, List.length_cons, List.length_nil]; omega)]
end Go.Proofs.Ytdhfiamgmokfbaa

/- Sums, so written that the kernel carries them out fast. It proves no statement by itself. -/
set_option linter.unusedSimpArgs false
set_option linter.unusedVariables false
namespace Go.Proofs.Ytdhfiamgmokfbaa
open E
def hqf {α : Type} (f : α → List Nat → α) : Nat → List Nat → α → α
  | 0, _, v => v
  | n + 1, p, v => hqf f n (p.drop 64) (f v (p.take 64))
theorem hqf_succ {α : Type} (f : α → List Nat → α) : ∀ (n : Nat) (p : List Nat) (v : α), hqf f (n + 1) p v = f (hqf f n p v) ((p.drop (64 * n)).take 64)
  | 0, p, v => rfl
  | n + 1, p, v => by
    show hqf f (n + 1) (p.drop 64) (f v (p.take 64)) = _
    rw [hqf_succ f n, List.drop_drop, show 64 + 64 * n = 64 * (n + 1) by omega]
    rfl
theorem hashes_hqf (f : St8 → List Nat → St8) (hf : ∀ h b, block h b = f h b) (p : List Nat) : ∀ n, hashes p n = hqf f n p first
  | 0 => rfl
  | n + 1 => by rw [hashes, hashes_hqf f hf p n, hf, hqf_succ]
def sumQ (l : List Nat) : List Nat := outB (s8 (hqf blockQ ((pad l).length / 64) (pad l) first)) 8
theorem sumOf_Q (l : List Nat) : sumOf l = sumQ l := by
  unfold sumOf sumQ
  rw [hashes_hqf blockQ block_eq]
theorem join_Q (tag : Nat) (ls : List (List Nat)) : join tag ls = sumQ (joinB tag ls ls.length) := by
  unfold join
  rw [sumOf_Q]
end Go.Proofs.Ytdhfiamgmokfbaa

/- A row of bytes that a constant string is turned into: the run-time's mark on it. It proves no statement by itself. -/
set_option linter.unusedSimpArgs false
set_option linter.unusedVariables false
namespace Go.Proofs.Ytdhfiamgmokfbaa
open Go Go.RowKit
namespace E
section
variable {P : Program} {w0 w : World} {ex : List Nat} {ks : List (Option Nat)} {ps pp : List (Option Obj → Prop)}
theorem freeze_heap (w : World) (b k : Nat) (cs : Array Value) (t : TypeId) (h : w.heap[b]? = some (.cells cs t (0, 0))) : (w.freeze ⟨b, k, none⟩ 1).heap[b]? = some (.cells cs t (k, k + 1)) := by
  have hlt : b < w.heap.size := (Array.getElem?_eq_some_iff.1 h).1
  unfold World.freeze
  rw [if_neg (by decide)]
  show (w.heap.modify b _)[b]? = _
  rw [Array.getElem?_modify]
  simp [h]
theorem freeze_other (w : World) (b k c : Nat) (h : c ≠ b) : (w.freeze ⟨b, k, none⟩ 1).heap[c]? = w.heap[c]? := by
  unfold World.freeze
  rw [if_neg (by decide)]
  show (w.heap.modify b _)[c]? = _
  rw [Array.getElem?_modify, if_neg (fun e => h e.symm)]
theorem freeze_size (w : World) (b k : Nat) : (w.freeze ⟨b, k, none⟩ 1).heap.size = w.heap.size := by
  unfold World.freeze
  rw [if_neg (by decide)]
  exact Array.size_modify
theorem freeze_rest (w : World) (b k : Nat) : (w.freeze ⟨b, k, none⟩ 1).os = w.os ∧ (w.freeze ⟨b, k, none⟩ 1).tape = w.tape ∧ (w.freeze ⟨b, k, none⟩ 1).output = w.output := by
  unfold World.freeze
  rw [if_neg (by decide)]
  exact ⟨rfl, rfl, rfl⟩
theorem St.freeze (S : St w0 w ex ks ps) (i m : Nat) {b : Nat} {cs : Array Value} {t : TypeId} (p' : Option Obj → Prop) (hk : ks[i]? = some (some b)) (hb : w.heap[b]? = some (.cells cs t (0, 0))) (hp : p' (some (.cells cs t (m, m + 1)))) :
    St w0 (w.freeze ⟨b, m, none⟩ 1) ex ks (ps.set i p') := by
  have hlt := S.lt b (List.mem_of_getElem? hk)
  obtain ⟨r1, r2, r3⟩ := freeze_rest w b m
  refine ⟨by rw [r1]; exact S.os, by rw [r2]; exact S.tape, by rw [r3]; exact S.output, by rw [freeze_size]; exact S.size, fun k hk' hx => ?_, fun j k p h h' => ?_, fun c h => by rw [freeze_size]; exact S.lt c h, S.fresh, S.nodup⟩
  · have : k ≠ b := by
      rintro rfl
      rcases S.fresh k (List.mem_of_getElem? hk) with h | h
      · omega
      · exact hx h
    rw [freeze_other w b m k this]
    exact S.old k hk' hx
  · by_cases hij : j = i
    · subst hij
      rw [hk] at h
      cases h
      have hl : j < ps.length := by
        have := (List.getElem?_eq_some_iff.1 h').1
        simpa using this
      rw [List.getElem?_set_self hl] at h'
      cases h'
      show p' ((w.freeze ⟨b, m, none⟩ 1).heap[b]?)
      rw [freeze_heap w b m cs t hb]; exact hp
    · rw [List.getElem?_set_ne (Ne.symm hij)] at h'
      have := S.own j k p h h'
      cases k with
      | none => exact this
      | some c =>
        have hc : c ≠ b := by
          rintro rfl
          exact hij (S.nodup j i c h hk)
        show p ((w.freeze ⟨b, m, none⟩ 1).heap[c]?)
        rw [freeze_other w b m c hc]; exact this
variable {ρ : Operand → Value} {d : Option Nat} {t ty : TypeId} {x : Operand} {ps' : String} {af : Array Edge} {g : Option (Nat × Bool)}
theorem d_mark {e : TypeId} {k : Option Nat} {n c cap : Nat} {xs : List Value} (S : St w0 w ex ks pp) (i : Nat) (hk : ks[i]? = some k) (hp : pp[i]? = some (Rw e 1 n cap xs)) (hn : 0 < n) (hx : ρ x = .slice (at_ k) n c) (ht : P.underlying t = some (.slice e)) (he : P.underlying e = some (.int .u8)) :
    Does P ρ { dst := d, op := .convert t t x, type := ty, pos := ps', after := af, guard := g } w fun v w' => v = .slice (at_ k) n c ∧ St w0 w' ex ks (pp.set i (Fz n xs)) := by
  obtain ⟨hxl, h⟩ := S.own i _ _ hk hp
  rcases h with ⟨_, h0, _⟩ | ⟨cur, hc, hnc, hcm, hcs, htk⟩
  · omega
  · cases k with
    | none => cases hc
    | some b =>
      have hb : w.heap[b]? = some (.cells cur e (0, 0)) := hc
      have hsh : w.shape? b = some (e, cur.size) := by unfold World.shape?; rw [hb]
      refine .inl ⟨_, w.freeze ⟨b, cur.size, none⟩ 1, ?_, rfl, S.freeze i cur.size (Fz n xs) hk hb ⟨by omega, _, _, _, rfl, by omega, by simpa using htk⟩⟩
      show ((do pure (.value (← convert t t (ρ x)))) : Sem Next).run P w = _
      rw [hx]
      simp [convert, run_underlying ht, run_underlying he, markStringish, hsh]
end
end E
end Go.Proofs.Ytdhfiamgmokfbaa

/- The third law's example. It proves no statement by itself. -/
set_option linter.unusedSimpArgs false
set_option linter.unusedVariables false
set_option maxRecDepth 100000
set_option maxHeartbeats 1000000
namespace Go.Proofs.Ytdhfiamgmokfbaa
open Go Go.RowKit E
attribute [local irreducible] wpList seqH treeH
theorem leaf97_0 : ((mleaf (sumOf [97])).getD 0 0 == (sumOf [97]).getD 0 0) = false := by kernel_rfl
theorem leaf97 : ¬ mleaf (sumOf [97]) = sumOf [97] := fun e => by
  have h := leaf97_0
  rw [e] at h; simp at h
theorem pair97_0 : ((mpair (mleaf (sumOf [97])) (mleaf (sumOf [97]))).getD 0 0 == (mleaf (sumOf [97])).getD 0 0) = false := by kernel_rfl
theorem pair97 : ¬ mpair (mleaf (sumOf [97])) (mleaf (sumOf [97])) = mleaf (sumOf [97]) := fun e => by
  have h := pair97_0
  rw [e] at h; simp at h
theorem l3awake (w0 : World) :
    Ret Try.prog 39 [] w0 fun v w' => v = .bool true ∧ Below w0.heap.size w0 w' := by
  refine enter Try.func39 rfl Try.ntmps39 (Nat.le_of_ble_eq_true rfl) ?_
  have S := St.init w0
  obtain ⟨z, hz⟩ : ∃ z, z = sumOf [97] := ⟨_, rfl⟩
  have hl : z.length = 32 := by rw [hz]; exact length_sumOf _
  have hm1 : mroot [z] = mleaf z := mroot_one rfl
  have hm2 : mroot [z, z] = mpair (mleaf z) (mleaf z) := by { unfold mroot; rw [if_neg (by simp), rootI_up (by simp)]; exact rootI_one _ }
  have hn1 : ¬ mleaf z = z := by { rw [hz]; exact leaf97 }
  have hn2 : ¬ mpair (mleaf z) (mleaf z) = mleaf z := by { rw [hz]; exact pair97 }
  have hck : mcheck (mleaf z) z 0 1 [] := ⟨by decide, by decide, by decide, climbC_end (by decide)⟩
  refine s_seq (s_plain ?_)
  refine p_val (e_assign (v := .bool _) rfl) rfl ?_
  refine p_nil (x_then (s_seq (s_plain ?_)))
  refine p_does (d_litB S Try.underlying33 sz5 zv5 rfl (l := [_]) rfl rfl (by decide)) rfl ?_
  rintro _ w ⟨b2, rfl, S⟩
  refine p_does (d_mark S 0 rfl rfl (by decide) rfl Try.underlying33 Try.underlying5) rfl ?_
  rintro _ w ⟨rfl, S⟩
  refine p_does (d_call Try.func80 nm80 rfl rfl (Ret.mono (R' := fun v w' => v = .agg (bv z).toArray ∧ Below _ _ w') (of_calls _ _ _ [97] (S.rdFz 0 rfl rfl) (by decide)) (fun v w' ⟨hv, hB⟩ => ⟨by rw [hv, hz], hB⟩))) rfl ?_
  rintro _ w ⟨rfl, hB⟩
  have S := S.below hB
  refine p_does (d_allocA S zvS) rfl ?_
  rintro _ w ⟨b1, rfl, S⟩
  refine p_does (d_storeW S 0 rfl rfl (by first | exact bv_one _ | exact sv_one _ | exact iv_one _ | with_reducible assumption | (refine One.mem ?_; repeat (first | exact One.bv _ | exact One.sv _ | exact One.iv _ | exact One.nil | exact One.cat0 | refine One.cat1 ?_ ?_ | refine One.cons rfl ?_ | refine One.append ?_ ?_))) sz29 (by first | with_reducible assumption | (rw [bv_length]; with_reducible assumption) | (rw [List.size_toArray, bv_length]; with_reducible assumption) | (simp [cat, hl, length_mleaf, length_mroot]; done) | (simp [cat, hl, length_mleaf, length_mroot]; omega) | rfl) rfl rfl (by first | with_reducible assumption | (rw [bv_length]; with_reducible assumption) | (rw [List.size_toArray, bv_length]; with_reducible assumption) | (simp [cat, hl, length_mleaf, length_mroot]; done) | (simp [cat, hl, length_mleaf, length_mroot]; omega) | rfl)) rfl ?_
  intro _ w S
  refine p_nil (x_then (s_seq ?_))
  refine s_cutK (ks := [some b1, some b2]) (ps := [Ex _ _, Fz _ _]) [] trivial S (fun keep ks ps f' w' => ∃ u bb, f' = upds u ((0, .bool bb) :: keep) ∧ (bb = true ↔ True) ∧ St w0 w' [] ks ps) ?_ ?_
  · refine s_drawK (ks := [some b1, some b2]) (ps := [Ex _ _, Fz _ _]) S [(true, 0), (true, 3), (false, 1), (false, 2), (false, 4), (true, 5), (true, 6), (true, 7), (true, 10), (false, 8), (false, 9), (true, 11), (true, 12), (true, 13), (true, 14), (true, 15), (true, 18), (false, 16), (false, 17), (false, 19), (true, 20), (true, 21), (true, 22), (true, 23), (true, 25), (false, 24), (false, 26), (true, 27)] [28] [28] mixed (by kernel_rfl) (by repeat (first | exact Calm.post _ _ _ | refine Calm.then ?_ _ | refine Calm.inB ?_ _)) (fun hS => ?_)
    have S := S.drew
    refine q_val (fun w hS => e_loadW 0 rfl ag29 sz29 hS rfl rfl (by first | with_reducible assumption | (rw [bv_length]; with_reducible assumption) | (rw [List.size_toArray, bv_length]; with_reducible assumption) | (simp [cat, hl, length_mleaf, length_mroot]; done) | (simp [cat, hl, length_mleaf, length_mroot]; omega) | rfl)) rfl hS ?_
    refine q_val (fun w hS => e_loadW 0 rfl ag29 sz29 hS rfl rfl (by first | with_reducible assumption | (rw [bv_length]; with_reducible assumption) | (rw [List.size_toArray, bv_length]; with_reducible assumption) | (simp [cat, hl, length_mleaf, length_mroot]; done) | (simp [cat, hl, length_mleaf, length_mroot]; omega) | rfl)) rfl hS ?_
    refine q_does (d_litS S Try.underlying24 sz29 zv29 rfl (L := [_]) rfl rfl (by intro x hx; simp at hx; simp [hx, hl, length_mleaf, length_mroot]) (by decide)) rfl ?_
    rintro _ w ⟨b6, rfl, S⟩
    have hS := S.pk [1, 2] rfl
    refine ⟨hS, ?_⟩
    refine q_does (d_call Try.func42 nm42 rfl rfl (mk_root _ _ _ [z] (S.rdRw 0 rfl rfl) (All32.single hl) (by simp))) rfl ?_
    rintro _ w ⟨rfl, hB⟩
    have S := S.below hB
    have hS := S.pk [1, 2] rfl
    refine ⟨hS, ?_⟩
    refine q_does (d_call Try.func44 nm44 rfl rfl (mk_leaf _ _ (by first | with_reducible assumption | (rw [bv_length]; with_reducible assumption) | (rw [List.size_toArray, bv_length]; with_reducible assumption) | (simp [cat, hl, length_mleaf, length_mroot]; done) | (simp [cat, hl, length_mleaf, length_mroot]; omega) | rfl))) rfl ?_
    rintro _ w ⟨rfl, hB⟩
    have S := S.below hB
    have hS := S.pk [1, 2] rfl
    refine ⟨hS, ?_⟩
    refine q_valB (fun w hS => EqT.sum eq29 gd29 rfl rfl (by first | with_reducible assumption | (rw [bv_length]; with_reducible assumption) | (rw [List.size_toArray, bv_length]; with_reducible assumption) | (simp [cat, hl, length_mleaf, length_mroot]; done) | (simp [cat, hl, length_mleaf, length_mroot]; omega) | rfl) (by first | with_reducible assumption | (rw [bv_length]; with_reducible assumption) | (rw [List.size_toArray, bv_length]; with_reducible assumption) | (simp [cat, hl, length_mleaf, length_mroot]; done) | (simp [cat, hl, length_mleaf, length_mroot]; omega) | rfl)) rfl hS (fun hg10 => ?_) (fun hg10 => ?_)
    · refine q_val (fun w hS => e_move (v := .bool _) rfl) rfl hS ?_
      refine qg_val rfl rfl rfl rfl rfl (fun w hS => e_loadW 0 rfl ag29 sz29 hS rfl rfl (by first | with_reducible assumption | (rw [bv_length]; with_reducible assumption) | (rw [List.size_toArray, bv_length]; with_reducible assumption) | (simp [cat, hl, length_mleaf, length_mroot]; done) | (simp [cat, hl, length_mleaf, length_mroot]; omega) | rfl)) hS ?_
      refine qg_val rfl rfl rfl rfl rfl (fun w hS => e_loadW 0 rfl ag29 sz29 hS rfl rfl (by first | with_reducible assumption | (rw [bv_length]; with_reducible assumption) | (rw [List.size_toArray, bv_length]; with_reducible assumption) | (simp [cat, hl, length_mleaf, length_mroot]; done) | (simp [cat, hl, length_mleaf, length_mroot]; omega) | rfl)) hS ?_
      refine qg_does rfl rfl rfl rfl rfl (d_litS S Try.underlying24 sz29 zv29 rfl (L := [_]) rfl rfl (by intro x hx; simp at hx; simp [hx, hl, length_mleaf, length_mroot]) (by decide)) ?_
      rintro _ w ⟨b13, rfl, S⟩
      have hS := S.pk [2, 3] rfl
      refine ⟨hS, ?_⟩
      refine qg_does rfl rfl rfl rfl rfl (d_call Try.func42 nm42 rfl rfl (mk_root _ _ _ [z] (S.rdRw 0 rfl rfl) (All32.single hl) (by simp))) ?_
      rintro _ w ⟨rfl, hB⟩
      have S := S.below hB
      have hS := S.pk [2, 3] rfl
      refine ⟨hS, ?_⟩
      refine qg_valB rfl rfl rfl rfl rfl (fun w hS => EqT.sumN eq29 gd29 rfl rfl (by first | with_reducible assumption | (rw [bv_length]; with_reducible assumption) | (rw [List.size_toArray, bv_length]; with_reducible assumption) | (simp [cat, hl, length_mleaf, length_mroot]; done) | (simp [cat, hl, length_mleaf, length_mroot]; omega) | rfl) (by first | with_reducible assumption | (rw [bv_length]; with_reducible assumption) | (rw [List.size_toArray, bv_length]; with_reducible assumption) | (simp [cat, hl, length_mleaf, length_mroot]; done) | (simp [cat, hl, length_mleaf, length_mroot]; omega) | rfl)) hS (fun hg16 => ?_) (fun hg16 => ?_)
      · refine q_val (fun w hS => e_pick_t rfl rfl) rfl hS ?_
        refine q_val (fun w hS => e_move (v := .bool _) rfl) rfl hS ?_
        refine qg_val rfl rfl rfl rfl rfl (fun w hS => e_loadW 0 rfl ag29 sz29 hS rfl rfl (by first | with_reducible assumption | (rw [bv_length]; with_reducible assumption) | (rw [List.size_toArray, bv_length]; with_reducible assumption) | (simp [cat, hl, length_mleaf, length_mroot]; done) | (simp [cat, hl, length_mleaf, length_mroot]; omega) | rfl)) hS ?_
        refine qg_val rfl rfl rfl rfl rfl (fun w hS => e_loadW 0 rfl ag29 sz29 hS rfl rfl (by first | with_reducible assumption | (rw [bv_length]; with_reducible assumption) | (rw [List.size_toArray, bv_length]; with_reducible assumption) | (simp [cat, hl, length_mleaf, length_mroot]; done) | (simp [cat, hl, length_mleaf, length_mroot]; omega) | rfl)) hS ?_
        refine qg_val rfl rfl rfl rfl rfl (fun w hS => e_loadW 0 rfl ag29 sz29 hS rfl rfl (by first | with_reducible assumption | (rw [bv_length]; with_reducible assumption) | (rw [List.size_toArray, bv_length]; with_reducible assumption) | (simp [cat, hl, length_mleaf, length_mroot]; done) | (simp [cat, hl, length_mleaf, length_mroot]; omega) | rfl)) hS ?_
        refine qg_does rfl rfl rfl rfl rfl (d_litS S Try.underlying24 sz29 zv29 rfl (L := [_, _]) rfl rfl (by intro x hx; simp at hx; simp [hx, hl, length_mleaf, length_mroot]) (by decide)) ?_
        rintro _ w ⟨b21, rfl, S⟩
        have hS := S.pk [3, 4] rfl
        refine ⟨hS, ?_⟩
        refine qg_does rfl rfl rfl rfl rfl (d_call Try.func42 nm42 rfl rfl (mk_root _ _ _ [z, z] (S.rdRw 0 rfl rfl) (All32.append (All32.single hl) (All32.single hl)) (by simp))) ?_
        rintro _ w ⟨rfl, hB⟩
        have S := S.below hB
        have hS := S.pk [3, 4] rfl
        refine ⟨hS, ?_⟩
        refine qg_does rfl rfl rfl rfl rfl (d_call Try.func44 nm44 rfl rfl (mk_leaf _ _ (by first | with_reducible assumption | (rw [bv_length]; with_reducible assumption) | (rw [List.size_toArray, bv_length]; with_reducible assumption) | (simp [cat, hl, length_mleaf, length_mroot]; done) | (simp [cat, hl, length_mleaf, length_mroot]; omega) | rfl))) ?_
        rintro _ w ⟨rfl, hB⟩
        have S := S.below hB
        have hS := S.pk [3, 4] rfl
        refine ⟨hS, ?_⟩
        refine qg_valB rfl rfl rfl rfl rfl (fun w hS => EqT.sumN eq29 gd29 rfl rfl (by first | with_reducible assumption | (rw [bv_length]; with_reducible assumption) | (rw [List.size_toArray, bv_length]; with_reducible assumption) | (simp [cat, hl, length_mleaf, length_mroot]; done) | (simp [cat, hl, length_mleaf, length_mroot]; omega) | rfl) (by first | with_reducible assumption | (rw [bv_length]; with_reducible assumption) | (rw [List.size_toArray, bv_length]; with_reducible assumption) | (simp [cat, hl, length_mleaf, length_mroot]; done) | (simp [cat, hl, length_mleaf, length_mroot]; omega) | rfl)) hS (fun hg25 => ?_) (fun hg25 => ?_)
        · refine q_val (fun w hS => e_pick_t rfl rfl) rfl hS ?_
          refine q_val (fun w hS => e_move (v := .bool _) rfl) rfl hS ?_
          refine qg_val rfl rfl rfl rfl rfl (fun w hS => e_loadW 0 rfl ag29 sz29 hS rfl rfl (by first | with_reducible assumption | (rw [bv_length]; with_reducible assumption) | (rw [List.size_toArray, bv_length]; with_reducible assumption) | (simp [cat, hl, length_mleaf, length_mroot]; done) | (simp [cat, hl, length_mleaf, length_mroot]; omega) | rfl)) hS ?_
          refine qg_val rfl rfl rfl rfl rfl (fun w hS => e_loadW 0 rfl ag29 sz29 hS rfl rfl (by first | with_reducible assumption | (rw [bv_length]; with_reducible assumption) | (rw [List.size_toArray, bv_length]; with_reducible assumption) | (simp [cat, hl, length_mleaf, length_mroot]; done) | (simp [cat, hl, length_mleaf, length_mroot]; omega) | rfl)) hS ?_
          refine qg_does rfl rfl rfl rfl rfl (d_call Try.func44 nm44 rfl rfl (mk_leaf _ _ (by first | with_reducible assumption | (rw [bv_length]; with_reducible assumption) | (rw [List.size_toArray, bv_length]; with_reducible assumption) | (simp [cat, hl, length_mleaf, length_mroot]; done) | (simp [cat, hl, length_mleaf, length_mroot]; omega) | rfl))) ?_
          rintro _ w ⟨rfl, hB⟩
          have S := S.below hB
          have hS := S.pk [3, 4] rfl
          refine ⟨hS, ?_⟩
          refine qg_does rfl rfl rfl rfl rfl (d_call Try.func38 nm38 rfl rfl (mk_check _ _ _ _ _ _ _ [] (length_mleaf _) hl (Rd.nil _ _ _) (by simp [All32]) (Nat.le_refl _))) ?_
          rintro _ w ⟨rfl, hB⟩
          have S := S.below hB
          have hS := S.pk [3, 4] rfl
          refine ⟨hS, ?_⟩
          refine q_val (fun w hS => e_pick_t rfl rfl) rfl hS ?_
          refine q_nil ?_
          refine p_val (e_assign (v := .bool _) rfl) rfl ?_
          exact p_nil (x_then ⟨_, rfl, _, _, upds_eq ⟨rfl, trivial⟩, by first | (simp; done) | (simp; exact hck) | simp [hck], S.pk [3, 4] rfl⟩)
        · exact False.elim (hg25 (fun h => hn2 (hm2.symm.trans h)))
      · exact False.elim (hg16 (fun h => hn1 (hm1.symm.trans h)))
    · exact False.elim (hg10 hm1)
  · rintro f w ⟨u, b0, rfl, hb0, S⟩
    refine x_then (s_ret ?_)
    exact post1 (v := .bool _) Try.results39 rfl (⟨by rw [hb0.2 trivial], S.to_below⟩)
end Go.Proofs.Ytdhfiamgmokfbaa

/- The third law's statements, walked. It proves no statement by itself. -/
set_option linter.unusedSimpArgs false
set_option linter.unusedVariables false
set_option maxRecDepth 100000
set_option maxHeartbeats 1000000
namespace Go.Proofs.Ytdhfiamgmokfbaa
open Go Go.RowKit E
attribute [local irreducible] wpList seqH treeH
theorem few_gen (w0 : World) (A : Option Addr) (c : Nat) (L M : List (List Nat)) (hn : L.length ≤ c) (hM : M = L.take 40) :
    Ret Try.prog 37 [.slice A L.length c] w0 fun v w' => v = .slice A M.length c ∧ Below w0.heap.size w0 w' := by
  subst hM; exact l3few w0 A c L hn
theorem mpath_rec {l : List (List Nat)} {a : Int} (h : 0 ≤ a ∧ a < (l.length : Int)) : mpath l a = mrecP l a.toNat := by
  unfold mpath mrecP
  rw [if_pos h]
  exact pathI_rec _ _ _ rfl (by rw [List.length_map]; omega)
theorem mpath_len (l : List (List Nat)) (a : Int) : (mpath l a).length ≤ l.length := by
  by_cases h : 0 ≤ a ∧ a < (l.length : Int)
  · rw [mpath_rec h]; exact mrecP_len _ _ _ rfl
  · unfold mpath; rw [if_neg h]; simp
theorem mroots_calls (w0 : World) (A : Option Addr) (c : Nat) (L : List (List Nat)) (a : Int) (s : List Nat) (R : Rd w0 32 A L.length (sv L)) (hL : All32 L) (cR : L.length ≤ c) (hs : s.length = 32) :
    Ret Try.prog 8 [.slice A L.length c, .int .i64 a, .agg (bv s).toArray] w0 fun v w' => v = .bool true ∧ Below w0.heap.size w0 w' := by
  refine enter Try.func8 rfl Try.ntmps8 (Nat.le_of_ble_eq_true rfl) ?_
  have S := St.init w0
  obtain ⟨M, hMe⟩ : ∃ M, M = L.take 40 := ⟨_, rfl⟩
  have hMl : M.length = min 40 L.length := by rw [hMe, List.length_take]
  have hM : All32 M := hMe ▸ hL.take 40
  have RM : Rd w0 32 A M.length (sv M) := by { have h9 := Rd.take_sv (m := M.length) hL R (by omega); rw [hMl] at h9 ⊢; rw [hMe]; rw [show L.take (min 40 L.length) = L.take 40 by rw [← hMl, hMe]; simp] at h9; exact h9 }
  refine s_seq (s_plain ?_)
  refine p_does (d_boxA S rfl) rfl ?_
  rintro _ w ⟨b5, rfl, S⟩
  refine p_val (e_assign (v := .bool _) rfl) rfl ?_
  refine p_nil (x_then (s_seq (s_plain ?_)))
  refine p_val (e_move (v := .slice _ _ _) rfl) rfl ?_
  refine p_does (d_call Try.func37 nm37 rfl rfl (few_gen _ _ _ _ _ cR hMe)) rfl ?_
  rintro _ w ⟨rfl, hB⟩
  have S := S.below hB
  refine p_val (e_assign (v := .slice _ _ _) rfl) rfl ?_
  refine p_nil (x_then (s_seq (s_plain ?_)))
  refine p_val (e_move (v := .int _ _) rfl) rfl ?_
  refine p_val (e_move (v := .slice _ _ _) rfl) rfl ?_
  refine p_does (d_call Try.func41 nm41 rfl rfl (mk_path _ _ _ _ _ (S.rdOld RM rfl) (by with_reducible assumption) (by omega))) rfl ?_
  rintro _ w ⟨k14, c14, rfl, T⟩
  have S := S.merge T rfl
  refine p_val (e_move (v := .tuple _) rfl) rfl ?_
  refine p_val (e_extract rfl rfl) rfl ?_
  refine p_val (e_extract rfl rfl) rfl ?_
  refine p_val (e_assign (v := .slice _ _ _) rfl) rfl ?_
  refine p_val (e_assign (v := .bool _) rfl) rfl ?_
  refine p_nil (x_then (s_seq (s_seq ?_)))
  refine s_cutK (ks := [k14, some b5]) (ps := [Rw _ _ _ _ _, Ex _ _]) [(0, .slice _ _ _), (1, .int _ _), (7, .slice _ _ _), (8, .bool _)] ⟨rfl, rfl, rfl, rfl, trivial⟩ S (fun keep ks ps f' w' => ∃ u bb, f' = upds u ((28, .bool bb) :: keep) ∧ (bb = true ↔ False) ∧ St w0 w' [] ks ps) ?_ ?_
  · refine s_drawK (ks := [k14, some b5]) (ps := [Rw _ _ _ _ _, Ex _ _]) S [(true, 0), (true, 2), (false, 1), (false, 3), (true, 4), (true, 5), (true, 6), (true, 8), (false, 7), (false, 9), (true, 10), (true, 11)] [] [] mixed (by kernel_rfl) (by repeat (first | exact Calm.post _ _ _ | refine Calm.then ?_ _ | refine Calm.inB ?_ _)) (fun hS => ?_)
    have S := S.drew
    refine q_val (fun w hS => e_move (v := .slice _ _ _) rfl) rfl hS ?_
    refine q_val (fun w hS => e_move (v := .slice _ _ _) rfl) rfl hS ?_
    refine q_does (d_call Try.func42 nm42 rfl rfl (mk_root _ _ _ _ (S.rdOld RM rfl) (by with_reducible assumption) (by omega))) rfl ?_
    rintro _ w ⟨rfl, hB⟩
    have S := S.below hB
    have hS := S.pk [0, 1] rfl
    refine ⟨hS, ?_⟩
    refine q_does (d_call Try.func43 nm43 rfl rfl (l3root _ _ _ _ _ (S.rdOld RM rfl) (by with_reducible assumption) rfl (by omega) (by omega))) rfl ?_
    rintro _ w ⟨rfl, hB⟩
    have S := S.below hB
    have hS := S.pk [0, 1] rfl
    refine ⟨hS, ?_⟩
    refine q_valB (fun w hS => EqT.sumN eq29 gd29 rfl rfl (by first | with_reducible assumption | (rw [bv_length]; with_reducible assumption) | (rw [List.size_toArray, bv_length]; with_reducible assumption) | (simp [cat, hs, length_mleaf, length_mroot]; done) | (simp [cat, hs, length_mleaf, length_mroot]; omega) | rfl) (by first | with_reducible assumption | (rw [bv_length]; with_reducible assumption) | (rw [List.size_toArray, bv_length]; with_reducible assumption) | (simp [cat, hs, length_mleaf, length_mroot]; done) | (simp [cat, hs, length_mleaf, length_mroot]; omega) | rfl)) rfl hS (fun hg21 => ?_) (fun hg21 => ?_)
    · exact False.elim (hg21 rfl)
    · refine q_val (fun w hS => e_move (v := .bool _) rfl) rfl hS ?_
      refine qg_val rfl rfl rfl rfl rfl (fun w hS => e_loadW 1 rfl ag29 sz29 hS rfl rfl (by first | with_reducible assumption | (rw [bv_length]; with_reducible assumption) | (rw [List.size_toArray, bv_length]; with_reducible assumption) | (simp [cat, hs, length_mleaf, length_mroot]; done) | (simp [cat, hs, length_mleaf, length_mroot]; omega) | rfl)) hS ?_
      refine qg_val rfl rfl rfl rfl rfl (fun w hS => e_loadW 1 rfl ag29 sz29 hS rfl rfl (by first | with_reducible assumption | (rw [bv_length]; with_reducible assumption) | (rw [List.size_toArray, bv_length]; with_reducible assumption) | (simp [cat, hs, length_mleaf, length_mroot]; done) | (simp [cat, hs, length_mleaf, length_mroot]; omega) | rfl)) hS ?_
      refine qg_does rfl rfl rfl rfl rfl (d_call Try.func44 nm44 rfl rfl (mk_leaf _ _ (by first | with_reducible assumption | (rw [bv_length]; with_reducible assumption) | (rw [List.size_toArray, bv_length]; with_reducible assumption) | (simp [cat, hs, length_mleaf, length_mroot]; done) | (simp [cat, hs, length_mleaf, length_mroot]; omega) | rfl))) ?_
      rintro _ w ⟨rfl, hB⟩
      have S := S.below hB
      have hS := S.pk [0, 1] rfl
      refine ⟨hS, ?_⟩
      refine qg_does rfl rfl rfl rfl rfl (d_call Try.func45 nm45 rfl rfl (l3leaf _ _ (by first | with_reducible assumption | (rw [bv_length]; with_reducible assumption) | (rw [List.size_toArray, bv_length]; with_reducible assumption) | (simp [cat, hs, length_mleaf, length_mroot]; done) | (simp [cat, hs, length_mleaf, length_mroot]; omega) | rfl))) ?_
      rintro _ w ⟨rfl, hB⟩
      have S := S.below hB
      have hS := S.pk [0, 1] rfl
      refine ⟨hS, ?_⟩
      refine qg_val rfl rfl rfl rfl rfl (fun w hS => EqT.sumN eq29 gd29 rfl rfl (by first | with_reducible assumption | (rw [bv_length]; with_reducible assumption) | (rw [List.size_toArray, bv_length]; with_reducible assumption) | (simp [cat, hs, length_mleaf, length_mroot]; done) | (simp [cat, hs, length_mleaf, length_mroot]; omega) | rfl) (by first | with_reducible assumption | (rw [bv_length]; with_reducible assumption) | (rw [List.size_toArray, bv_length]; with_reducible assumption) | (simp [cat, hs, length_mleaf, length_mroot]; done) | (simp [cat, hs, length_mleaf, length_mroot]; omega) | rfl)) hS ?_
      refine q_val (fun w hS => e_pick_f rfl rfl) rfl hS ?_
      refine q_nil ?_
      exact p_nil (x_then ⟨_, rfl, _, _, upds_eq ⟨rfl, rfl, rfl, rfl, rfl, trivial⟩, by first | (simp only [decide_eq_true_eq, eq_self, true_iff, iff_true, iff_false, Bool.false_eq_true, false_iff, ge_iff_le, gt_iff_lt, true_and, and_true, false_and, and_false, true_or, or_true, false_or, or_false, not_true_eq_false, not_false_eq_true]; omega) | simp | omega | simp_all, S⟩)
  · rintro f w ⟨u, b28, rfl, hb28, S⟩
    refine x_then ?_
    refine s_condb rfl (fun hc28 => ?_) (fun hc28 => ?_)
    · have hp28 : False := hb28.1 hc28
      refine s_seq (s_plain ?_)
      refine p_val (e_assign (v := .bool _) rfl) rfl ?_
      refine p_nil (x_then (s_ret (x_then_ret ?_)))
      exact post1 (v := .bool _) Try.results8 rfl (hp28.elim)
    · have hp28 : ¬ False := fun h => by rw [hb28.2 h] at hc28; cases hc28
      refine s_skip (x_then (s_seq (s_seq ?_)))
      refine s_cutK (ks := [k14, some b5]) (ps := [Rw _ _ _ _ _, Ex _ _]) [(0, .slice _ _ _), (1, .int _ _), (7, .slice _ _ _), (8, .bool _)] ⟨rfl, rfl, rfl, rfl, trivial⟩ S (fun keep ks ps f' w' => ∃ u bb, f' = upds u ((36, .bool bb) :: keep) ∧ (bb = true ↔ ((a < (0 : Int)) ∨ (((M.length : Nat) : Int) ≤ a))) ∧ St w0 w' [] ks ps) ?_ ?_
      · refine s_plain ?_
        refine p_val (e_move (v := .int _ _) rfl) rfl ?_
        refine p_valB (e_lss rfl rfl) rfl (fun hg30 => ?_) (fun hg30 => ?_)
        · refine p_val (e_move (v := .bool _) rfl) rfl ?_
          refine p_no rfl rfl rfl rfl rfl ?_
          refine p_no rfl rfl rfl rfl rfl ?_
          refine p_no rfl rfl rfl rfl rfl ?_
          refine p_no rfl rfl rfl rfl rfl ?_
          refine p_val (e_pick_t rfl rfl) rfl ?_
          exact p_nil (x_then ⟨_, rfl, _, _, upds_eq ⟨rfl, rfl, rfl, rfl, rfl, trivial⟩, by first | (simp only [decide_eq_true_eq, eq_self, true_iff, iff_true, iff_false, Bool.false_eq_true, false_iff, ge_iff_le, gt_iff_lt, true_and, and_true, false_and, and_false, true_or, or_true, false_or, or_false, not_true_eq_false, not_false_eq_true]; omega) | simp | omega | simp_all, S⟩)
        · refine p_val (e_move (v := .bool _) rfl) rfl ?_
          refine pg_val rfl rfl rfl rfl rfl (e_move (v := .int _ _) rfl) ?_
          refine pg_val rfl rfl rfl rfl rfl (e_move (v := .slice _ _ _) rfl) ?_
          refine pg_val rfl rfl rfl rfl rfl (e_len rfl Try.underlying24) ?_
          refine pg_val rfl rfl rfl rfl rfl (e_geq rfl rfl) ?_
          refine p_val (e_pick_f rfl rfl) rfl ?_
          exact p_nil (x_then ⟨_, rfl, _, _, upds_eq ⟨rfl, rfl, rfl, rfl, rfl, trivial⟩, by first | (simp only [decide_eq_true_eq, eq_self, true_iff, iff_true, iff_false, Bool.false_eq_true, false_iff, ge_iff_le, gt_iff_lt, true_and, and_true, false_and, and_false, true_or, or_true, false_or, or_false, not_true_eq_false, not_false_eq_true]; omega) | simp | omega | simp_all, S⟩)
      · rintro f w ⟨u, b36, rfl, hb36, S⟩
        refine x_then ?_
        refine s_condb rfl (fun hc36 => ?_) (fun hc36 => ?_)
        · have hp36 : ((a < (0 : Int)) ∨ (((M.length : Nat) : Int) ≤ a)) := hb36.1 hc36
          refine s_seq ?_
          refine s_cutK (ks := [k14, some b5]) (ps := [Rw _ _ _ _ _, Ex _ _]) [] trivial S (fun keep ks ps f' w' => ∃ u bb, f' = upds u ((6, .bool bb) :: keep) ∧ (bb = true ↔ True) ∧ St w0 w' [] ks ps) ?_ ?_
          · refine s_plain ?_
            refine p_val (e_move (v := .slice _ _ _) rfl) rfl ?_
            refine p_val (e_len rfl Try.underlying24) rfl ?_
            refine p_valB (e_eql rfl rfl) rfl (fun hg39 => ?_) (fun hg39 => ?_)
            · refine p_val (e_move (v := .bool _) rfl) rfl ?_
              rcases Classical.em (0 ≤ a ∧ a < (M.length : Int)) with hg41 | hg41
              · rw [decide_eq_true hg41]
                refine pg_val rfl rfl rfl rfl rfl (e_move (v := .bool _) rfl) ?_
                refine pg_val rfl rfl rfl rfl rfl (e_not rfl) ?_
                refine p_val (e_pick_t rfl rfl) rfl ?_
                refine p_val (e_move (v := .bool _) rfl) rfl ?_
                refine p_no rfl rfl rfl rfl rfl ?_
                refine p_val (e_pick_f rfl rfl) rfl ?_
                refine p_val (e_assign (v := .bool _) rfl) rfl ?_
                exact p_nil (x_then ⟨_, rfl, _, _, upds_eq ⟨rfl, trivial⟩, by first | (simp only [decide_eq_true_eq, eq_self, true_iff, iff_true, iff_false, Bool.false_eq_true, false_iff, ge_iff_le, gt_iff_lt, true_and, and_true, false_and, and_false, true_or, or_true, false_or, or_false, not_true_eq_false, not_false_eq_true]; omega) | simp | omega | simp_all, S⟩)
              · rw [decide_eq_false hg41]
                refine pg_val rfl rfl rfl rfl rfl (e_move (v := .bool _) rfl) ?_
                refine pg_val rfl rfl rfl rfl rfl (e_not rfl) ?_
                refine p_val (e_pick_t rfl rfl) rfl ?_
                refine p_val (e_move (v := .bool _) rfl) rfl ?_
                refine pg_does rfl rfl rfl rfl rfl (d_call Try.func39 nm39 rfl rfl (l3awake _)) ?_
                rintro _ w ⟨rfl, hB⟩
                have S := S.below hB
                refine p_val (e_pick_t rfl rfl) rfl ?_
                refine p_val (e_assign (v := .bool _) rfl) rfl ?_
                exact p_nil (x_then ⟨_, rfl, _, _, upds_eq ⟨rfl, trivial⟩, by first | (simp only [decide_eq_true_eq, eq_self, true_iff, iff_true, iff_false, Bool.false_eq_true, false_iff, ge_iff_le, gt_iff_lt, true_and, and_true, false_and, and_false, true_or, or_true, false_or, or_false, not_true_eq_false, not_false_eq_true]; omega) | simp | omega | simp_all, S⟩)
            · exact False.elim (hg39 (by unfold mpath; rw [if_neg (by omega)]; rfl))
          · rintro f w ⟨u, b6, rfl, hb6, S⟩
            refine x_then (s_ret (x_then_ret ?_))
            exact post1 (v := .bool _) Try.results8 rfl (⟨by rw [hb6.2 trivial], S.to_below⟩)
        · have hp36 : ¬ ((a < (0 : Int)) ∨ (((M.length : Nat) : Int) ≤ a)) := fun h => by rw [hb36.2 h] at hc36; cases hc36
          refine s_skip (x_then (s_seq ?_))
          refine s_cutK (ks := [k14, some b5]) (ps := [Rw _ _ _ _ _, Ex _ _]) [] trivial S (fun keep ks ps f' w' => ∃ u bb, f' = upds u ((6, .bool bb) :: keep) ∧ (bb = true ↔ True) ∧ St w0 w' [] ks ps) ?_ ?_
          · refine s_plain ?_
            rcases Classical.em (0 ≤ a ∧ a < (M.length : Int)) with hg47 | hg47
            · rw [decide_eq_true hg47]
              refine p_val (e_move (v := .bool _) rfl) rfl ?_
              refine p_val (e_move (v := .bool _) rfl) rfl ?_
              refine pg_val rfl rfl rfl rfl rfl (e_move (v := .slice _ _ _) rfl) ?_
              refine pg_val rfl rfl rfl rfl rfl (e_move (v := .slice _ _ _) rfl) ?_
              refine pg_val rfl rfl rfl rfl rfl (e_move (v := .int _ _) rfl) ?_
              refine pg_does rfl rfl rfl rfl rfl (d_call Try.func47 nm47 rfl rfl (l3path _ _ a.toNat (by omega) _ _ _ M (S.rdOld RM rfl) hM rfl (by omega) (by omega) (by omega))) ?_
              rintro _ w ⟨k52, c52, rfl, T⟩
              have S := S.merge T rfl
              refine pg_does rfl rfl rfl rfl rfl (d_call Try.func46 nm46 rfl rfl (l3same _ _ _ _ _ (mpath M a) (mrecP M a.toNat) (S.rdRw 1 rfl rfl) (mpath_all M a) (S.rdRw 0 rfl rfl) (mrecP_all _ M _ rfl) (by have := mpath_len M a; omega))) ?_
              rintro _ w ⟨rfl, hB⟩
              have S := S.below hB
              rcases Classical.em (mpath M a = mrecP M a.toNat) with hg53 | hg53
              · rw [decide_eq_true hg53]
                refine p_val (e_pick_t rfl rfl) rfl ?_
                refine p_val (e_move (v := .bool _) rfl) rfl ?_
                refine pg_does rfl rfl rfl rfl rfl (d_call Try.func39 nm39 rfl rfl (l3awake _)) ?_
                rintro _ w ⟨rfl, hB⟩
                have S := S.below hB
                refine p_val (e_pick_t rfl rfl) rfl ?_
                refine p_val (e_assign (v := .bool _) rfl) rfl ?_
                exact p_nil (x_then ⟨_, rfl, _, _, upds_eq ⟨rfl, trivial⟩, by first | (simp only [decide_eq_true_eq, eq_self, true_iff, iff_true, iff_false, Bool.false_eq_true, false_iff, ge_iff_le, gt_iff_lt, true_and, and_true, false_and, and_false, true_or, or_true, false_or, or_false, not_true_eq_false, not_false_eq_true]; omega) | simp | omega | simp_all, S.pk [1, 2] rfl⟩)
              · exact False.elim (hg53 (mpath_rec (by omega)))
            · rw [decide_eq_false hg47]
              refine p_val (e_move (v := .bool _) rfl) rfl ?_
              refine p_val (e_move (v := .bool _) rfl) rfl ?_
              refine p_no rfl rfl rfl rfl rfl ?_
              refine p_no rfl rfl rfl rfl rfl ?_
              refine p_no rfl rfl rfl rfl rfl ?_
              refine p_no rfl rfl rfl rfl rfl ?_
              refine p_no rfl rfl rfl rfl rfl ?_
              refine p_val (e_pick_f rfl rfl) rfl ?_
              refine p_val (e_move (v := .bool _) rfl) rfl ?_
              refine p_no rfl rfl rfl rfl rfl ?_
              refine p_val (e_pick_f rfl rfl) rfl ?_
              refine p_val (e_assign (v := .bool _) rfl) rfl ?_
              exact p_nil (x_then ⟨_, rfl, _, _, upds_eq ⟨rfl, trivial⟩, by first | (simp only [decide_eq_true_eq, eq_self, true_iff, iff_true, iff_false, Bool.false_eq_true, false_iff, ge_iff_le, gt_iff_lt, true_and, and_true, false_and, and_false, true_or, or_true, false_or, or_false, not_true_eq_false, not_false_eq_true]; omega) | simp | omega | simp_all, S⟩)
          · rintro f w ⟨u, b6, rfl, hb6, S⟩
            refine x_then (s_ret ?_)
            exact post1 (v := .bool _) Try.results8 rfl (⟨by rw [hb6.2 trivial], S.to_below⟩)
theorem mroots_n (w0 : World) (A : Option Addr) (n c : Nat) (L : List (List Nat)) (a : Int) (s : List Nat) (hn : L.length = n) (R : Rd w0 32 A n (sv L)) (hL : All32 L) (cR : n ≤ c) (hs : s.length = 32) :
     Ret Try.prog 8 [.slice A n c, .int .i64 a, .agg (bv s).toArray] w0 fun v w' => v = .bool true ∧ Below w0.heap.size w0 w' := by
  subst hn; exact mroots_calls w0 A c L a s R hL cR hs
theorem mclimbs_calls (w0 : World) (r s : List Nat) (a m : Int) (A : Option Addr) (c : Nat) (L : List (List Nat)) (hr : r.length = 32) (hs : s.length = 32) (R : Rd w0 32 A L.length (sv L)) (hL : All32 L) (cR : L.length ≤ c) :
    Ret Try.prog 7 [.agg (bv r).toArray, .agg (bv s).toArray, .int .i64 a, .int .i64 m, .slice A L.length c] w0 fun v w' => v = .bool true ∧ Below w0.heap.size w0 w' := by
  refine enter Try.func7 rfl Try.ntmps7 (Nat.le_of_ble_eq_true rfl) ?_
  have S := St.init w0
  obtain ⟨M, hMe⟩ : ∃ M, M = L.take 40 := ⟨_, rfl⟩
  have hMl : M.length = min 40 L.length := by rw [hMe, List.length_take]
  have hM : All32 M := hMe ▸ hL.take 40
  have RM : Rd w0 32 A M.length (sv M) := by { have h9 := Rd.take_sv (m := M.length) hL R (by omega); rw [hMl] at h9 ⊢; rw [hMe]; rw [show L.take (min 40 L.length) = L.take 40 by rw [← hMl, hMe]; simp] at h9; exact h9 }
  refine s_seq (s_plain ?_)
  refine p_does (d_boxA S rfl) rfl ?_
  rintro _ w ⟨b5, rfl, S⟩
  refine p_does (d_boxA S rfl) rfl ?_
  rintro _ w ⟨b6, rfl, S⟩
  refine p_val (e_assign (v := .bool _) rfl) rfl ?_
  refine p_nil (x_then (s_seq (s_plain ?_)))
  refine p_val (e_move (v := .slice _ _ _) rfl) rfl ?_
  refine p_does (d_call Try.func37 nm37 rfl rfl (few_gen _ _ _ _ _ cR hMe)) rfl ?_
  rintro _ w ⟨rfl, hB⟩
  have S := S.below hB
  refine p_val (e_assign (v := .slice _ _ _) rfl) rfl ?_
  refine p_nil (x_then (s_seq (s_plain ?_)))
  refine p_val (e_loadW 1 rfl ag29 sz29 S rfl rfl (by first | with_reducible assumption | (rw [bv_length]; with_reducible assumption) | (rw [List.size_toArray, bv_length]; with_reducible assumption) | (simp [cat, hr, hs, length_mleaf, length_mroot]; done) | (simp [cat, hr, hs, length_mleaf, length_mroot]; omega) | rfl)) rfl ?_
  refine p_val (e_loadW 0 rfl ag29 sz29 S rfl rfl (by first | with_reducible assumption | (rw [bv_length]; with_reducible assumption) | (rw [List.size_toArray, bv_length]; with_reducible assumption) | (simp [cat, hr, hs, length_mleaf, length_mroot]; done) | (simp [cat, hr, hs, length_mleaf, length_mroot]; omega) | rfl)) rfl ?_
  refine p_val (e_move (v := .int _ _) rfl) rfl ?_
  refine p_val (e_move (v := .int _ _) rfl) rfl ?_
  refine p_val (e_move (v := .slice _ _ _) rfl) rfl ?_
  refine p_does (d_call Try.func38 nm38 rfl rfl (mk_check _ _ _ _ _ _ _ M hr hs (S.rdOld RM rfl) hM (by omega))) rfl ?_
  rintro _ w ⟨rfl, hB⟩
  have S := S.below hB
  refine p_val (e_assign (v := .bool _) rfl) rfl ?_
  refine p_nil (x_then (s_seq (s_seq ?_)))
  refine s_cutK (ks := [some b6, some b5]) (ps := [Ex _ _, Ex _ _]) [(2, .int _ _), (3, .int _ _), (4, .slice _ _ _), (5, .pointer _), (6, .pointer _), (11, .bool _)] ⟨rfl, rfl, rfl, rfl, rfl, rfl, trivial⟩ S (fun keep ks ps f' w' => ∃ u bb, f' = upds u ((32, .bool bb) :: keep) ∧ (bb = true ↔ (((a < (0 : Int)) ∨ (m ≤ a)) ∨ ((4096 : Int) < m))) ∧ St w0 w' [] ks ps) ?_ ?_
  · refine s_plain ?_
    refine p_val (e_move (v := .int _ _) rfl) rfl ?_
    refine p_valB (e_lss rfl rfl) rfl (fun hg23 => ?_) (fun hg23 => ?_)
    · refine p_val (e_move (v := .bool _) rfl) rfl ?_
      refine p_no rfl rfl rfl rfl rfl ?_
      refine p_no rfl rfl rfl rfl rfl ?_
      refine p_no rfl rfl rfl rfl rfl ?_
      refine p_val (e_pick_t rfl rfl) rfl ?_
      refine p_val (e_move (v := .bool _) rfl) rfl ?_
      refine p_no rfl rfl rfl rfl rfl ?_
      refine p_no rfl rfl rfl rfl rfl ?_
      refine p_val (e_pick_t rfl rfl) rfl ?_
      exact p_nil (x_then ⟨_, rfl, _, _, upds_eq ⟨rfl, rfl, rfl, rfl, rfl, rfl, rfl, trivial⟩, by first | (simp only [decide_eq_true_eq, eq_self, true_iff, iff_true, iff_false, Bool.false_eq_true, false_iff, ge_iff_le, gt_iff_lt, true_and, and_true, false_and, and_false, true_or, or_true, false_or, or_false, not_true_eq_false, not_false_eq_true]; omega) | simp | omega | simp_all, S⟩)
    · refine p_val (e_move (v := .bool _) rfl) rfl ?_
      refine pg_val rfl rfl rfl rfl rfl (e_move (v := .int _ _) rfl) ?_
      refine pg_val rfl rfl rfl rfl rfl (e_move (v := .int _ _) rfl) ?_
      refine pg_valB rfl rfl rfl rfl rfl (e_geq rfl rfl) (fun hg27 => ?_) (fun hg27 => ?_)
      · refine p_val (e_pick_f rfl rfl) rfl ?_
        refine p_val (e_move (v := .bool _) rfl) rfl ?_
        refine p_no rfl rfl rfl rfl rfl ?_
        refine p_no rfl rfl rfl rfl rfl ?_
        refine p_val (e_pick_t rfl rfl) rfl ?_
        exact p_nil (x_then ⟨_, rfl, _, _, upds_eq ⟨rfl, rfl, rfl, rfl, rfl, rfl, rfl, trivial⟩, by first | (simp only [decide_eq_true_eq, eq_self, true_iff, iff_true, iff_false, Bool.false_eq_true, false_iff, ge_iff_le, gt_iff_lt, true_and, and_true, false_and, and_false, true_or, or_true, false_or, or_false, not_true_eq_false, not_false_eq_true]; omega) | simp | omega | simp_all, S⟩)
      · refine p_val (e_pick_f rfl rfl) rfl ?_
        refine p_val (e_move (v := .bool _) rfl) rfl ?_
        refine pg_val rfl rfl rfl rfl rfl (e_move (v := .int _ _) rfl) ?_
        refine pg_val rfl rfl rfl rfl rfl (e_gtr rfl rfl) ?_
        refine p_val (e_pick_f rfl rfl) rfl ?_
        exact p_nil (x_then ⟨_, rfl, _, _, upds_eq ⟨rfl, rfl, rfl, rfl, rfl, rfl, rfl, trivial⟩, by first | (simp only [decide_eq_true_eq, eq_self, true_iff, iff_true, iff_false, Bool.false_eq_true, false_iff, ge_iff_le, gt_iff_lt, true_and, and_true, false_and, and_false, true_or, or_true, false_or, or_false, not_true_eq_false, not_false_eq_true]; omega) | simp | omega | simp_all, S⟩)
  · rintro f w ⟨u, b32, rfl, hb32, S⟩
    refine x_then ?_
    refine s_condb rfl (fun hc32 => ?_) (fun hc32 => ?_)
    · have hp32 : (((a < (0 : Int)) ∨ (m ≤ a)) ∨ ((4096 : Int) < m)) := hb32.1 hc32
      refine s_seq ?_
      refine s_cutK (ks := [some b6, some b5]) (ps := [Ex _ _, Ex _ _]) [] trivial S (fun keep ks ps f' w' => ∃ u bb, f' = upds u ((10, .bool bb) :: keep) ∧ (bb = true ↔ True) ∧ St w0 w' [] ks ps) ?_ ?_
      · refine s_plain ?_
        rcases Classical.em (mcheck r s a m M) with hg33 | hg33
        · exact False.elim (by have h1 := hg33.1; have h2 := hg33.2.1; have h3 := hg33.2.2.1; omega)
        · rw [decide_eq_false hg33]
          refine p_val (e_move (v := .bool _) rfl) rfl ?_
          refine p_val (e_not rfl) rfl ?_
          refine p_val (e_move (v := .bool _) rfl) rfl ?_
          refine pg_does rfl rfl rfl rfl rfl (d_call Try.func39 nm39 rfl rfl (l3awake _)) ?_
          rintro _ w ⟨rfl, hB⟩
          have S := S.below hB
          refine p_val (e_pick_t rfl rfl) rfl ?_
          refine p_val (e_assign (v := .bool _) rfl) rfl ?_
          exact p_nil (x_then ⟨_, rfl, _, _, upds_eq ⟨rfl, trivial⟩, by first | (simp only [decide_eq_true_eq, eq_self, true_iff, iff_true, iff_false, Bool.false_eq_true, false_iff, ge_iff_le, gt_iff_lt, true_and, and_true, false_and, and_false, true_or, or_true, false_or, or_false, not_true_eq_false, not_false_eq_true]; omega) | simp | omega | simp_all, S⟩)
      · rintro f w ⟨u, b10, rfl, hb10, S⟩
        refine x_then (s_ret (x_then_ret ?_))
        exact post1 (v := .bool _) Try.results7 rfl (⟨by rw [hb10.2 trivial], S.to_below⟩)
    · have hp32 : ¬ (((a < (0 : Int)) ∨ (m ≤ a)) ∨ ((4096 : Int) < m)) := fun h => by rw [hb32.2 h] at hc32; cases hc32
      refine s_skip (x_then (s_seq (s_plain ?_)))
      refine p_val (e_loadW 0 rfl ag29 sz29 S rfl rfl (by first | with_reducible assumption | (rw [bv_length]; with_reducible assumption) | (rw [List.size_toArray, bv_length]; with_reducible assumption) | (simp [cat, hr, hs, length_mleaf, length_mroot]; done) | (simp [cat, hr, hs, length_mleaf, length_mroot]; omega) | rfl)) rfl ?_
      refine p_val (e_move (v := .int _ _) rfl) rfl ?_
      refine p_val (e_move (v := .int _ _) rfl) rfl ?_
      refine p_val (e_move (v := .slice _ _ _) rfl) rfl ?_
      refine p_does (d_call Try.func40 nm40 rfl rfl (l3climb _ _ _ _ _ _ M hs (S.rdOld RM rfl) hM (by omega) (by omega) (by omega) (by omega))) rfl ?_
      rintro _ w ⟨x43, b43, rfl, hx43, hk43, T⟩
      have S := S.below T
      refine p_val (e_move (v := .tuple _) rfl) rfl ?_
      refine p_val (e_extract rfl rfl) rfl ?_
      refine p_val (e_extract rfl rfl) rfl ?_
      refine p_does (d_allocA S zvS) rfl ?_
      rintro _ w ⟨b12, rfl, S⟩
      refine p_does (d_storeW S 0 rfl rfl (by first | exact bv_one _ | exact sv_one _ | exact iv_one _ | with_reducible assumption | (refine One.mem ?_; repeat (first | exact One.bv _ | exact One.sv _ | exact One.iv _ | exact One.nil | exact One.cat0 | refine One.cat1 ?_ ?_ | refine One.cons rfl ?_ | refine One.append ?_ ?_))) sz29 (by first | with_reducible assumption | (rw [bv_length]; with_reducible assumption) | (rw [List.size_toArray, bv_length]; with_reducible assumption) | (simp [cat, hr, hs, length_mleaf, length_mroot]; done) | (simp [cat, hr, hs, length_mleaf, length_mroot]; omega) | rfl) rfl rfl (by first | with_reducible assumption | (rw [bv_length]; with_reducible assumption) | (rw [List.size_toArray, bv_length]; with_reducible assumption) | (simp [cat, hr, hs, length_mleaf, length_mroot]; done) | (simp [cat, hr, hs, length_mleaf, length_mroot]; omega) | rfl)) rfl ?_
      intro _ w S
      refine p_val (e_assign (v := .bool _) rfl) rfl ?_
      refine p_nil (x_then (s_seq ?_))
      refine s_cutK (ks := [some b12, some b6, some b5]) (ps := [Ex _ _, Ex _ _, Ex _ _]) [] trivial S (fun keep ks ps f' w' => ∃ u bb, f' = upds u ((10, .bool bb) :: keep) ∧ (bb = true ↔ True) ∧ St w0 w' [] ks ps) ?_ ?_
      · refine s_plain ?_
        refine p_val (e_move (v := .bool _) rfl) rfl ?_
        refine p_val (e_move (v := .bool _) rfl) rfl ?_
        -- TODO split at a move
        rcases Bool.eq_false_or_eq_true b43 with rfl | rfl
        · skip
          refine p_val (e_move (v := .bool _) rfl) rfl ?_
          refine pg_val rfl rfl rfl rfl rfl (e_loadW 0 rfl ag29 sz29 S rfl rfl (by first | with_reducible assumption | (rw [bv_length]; with_reducible assumption) | (rw [List.size_toArray, bv_length]; with_reducible assumption) | (simp [cat, hr, hs, length_mleaf, length_mroot]; done) | (simp [cat, hr, hs, length_mleaf, length_mroot]; omega) | rfl)) ?_
          refine pg_val rfl rfl rfl rfl rfl (e_loadW 2 rfl ag29 sz29 S rfl rfl (by first | with_reducible assumption | (rw [bv_length]; with_reducible assumption) | (rw [List.size_toArray, bv_length]; with_reducible assumption) | (simp [cat, hr, hs, length_mleaf, length_mroot]; done) | (simp [cat, hr, hs, length_mleaf, length_mroot]; omega) | rfl)) ?_
          refine pg_val rfl rfl rfl rfl rfl (EqT.sum eq29 gd29 rfl rfl (by first | with_reducible assumption | (rw [bv_length]; with_reducible assumption) | (rw [List.size_toArray, bv_length]; with_reducible assumption) | (simp [cat, hr, hs, length_mleaf, length_mroot]; done) | (simp [cat, hr, hs, length_mleaf, length_mroot]; omega) | rfl) (by first | with_reducible assumption | (rw [bv_length]; with_reducible assumption) | (rw [List.size_toArray, bv_length]; with_reducible assumption) | (simp [cat, hr, hs, length_mleaf, length_mroot]; done) | (simp [cat, hr, hs, length_mleaf, length_mroot]; omega) | rfl)) ?_
          refine p_val (e_pick_t rfl rfl) rfl ?_
          refine p_valb (e_eqlB rfl rfl Try.underlying4) rfl (fun hg53 => ?_) (fun hg53 => ?_)
          · refine p_val (e_move (v := .bool _) rfl) rfl ?_
            refine pg_val rfl rfl rfl rfl rfl (e_move (v := .bool _) rfl) ?_
            -- TODO split at a move
            refine pg_valb rfl rfl rfl rfl rfl (e_not rfl) (fun hg56 => ?_) (fun hg56 => ?_)
            · refine pg_val rfl rfl rfl rfl rfl (e_move (v := .bool _) rfl) ?_
              refine p_no rfl rfl rfl rfl rfl ?_
              refine p_no rfl rfl rfl rfl rfl ?_
              refine p_no rfl rfl rfl rfl rfl ?_
              refine p_no rfl rfl rfl rfl rfl ?_
              refine p_no rfl rfl rfl rfl rfl ?_
              refine p_no rfl rfl rfl rfl rfl ?_
              refine pg_val rfl rfl rfl rfl rfl (e_pick_t rfl rfl) ?_
              refine p_val (e_pick_t rfl rfl) rfl ?_
              refine p_val (e_move (v := .bool _) rfl) rfl ?_
              refine p_val (e_pick_t rfl rfl) rfl ?_
              refine p_val (e_move (v := .bool _) rfl) rfl ?_
              refine pg_does rfl rfl rfl rfl rfl (d_call Try.func39 nm39 rfl rfl (l3awake _)) ?_
              rintro _ w ⟨rfl, hB⟩
              have S := S.below hB
              refine p_val (e_pick_t rfl rfl) rfl ?_
              refine p_val (e_assign (v := .bool _) rfl) rfl ?_
              exact p_nil (x_then ⟨_, rfl, _, _, upds_eq ⟨rfl, trivial⟩, by first | (simp only [decide_eq_true_eq, eq_self, true_iff, iff_true, iff_false, Bool.false_eq_true, false_iff, ge_iff_le, gt_iff_lt, true_and, and_true, false_and, and_false, true_or, or_true, false_or, or_false, not_true_eq_false, not_false_eq_true]; omega) | simp | omega | simp_all, S⟩)
            · refine pg_val rfl rfl rfl rfl rfl (e_move (v := .bool _) rfl) ?_
              refine pg_val rfl rfl rfl rfl rfl (e_loadW 0 rfl ag29 sz29 S rfl rfl (by first | with_reducible assumption | (rw [bv_length]; with_reducible assumption) | (rw [List.size_toArray, bv_length]; with_reducible assumption) | (simp [cat, hr, hs, length_mleaf, length_mroot]; done) | (simp [cat, hr, hs, length_mleaf, length_mroot]; omega) | rfl)) ?_
              refine pg_val rfl rfl rfl rfl rfl (e_loadW 1 rfl ag29 sz29 S rfl rfl (by first | with_reducible assumption | (rw [bv_length]; with_reducible assumption) | (rw [List.size_toArray, bv_length]; with_reducible assumption) | (simp [cat, hr, hs, length_mleaf, length_mroot]; done) | (simp [cat, hr, hs, length_mleaf, length_mroot]; omega) | rfl)) ?_
              refine pg_val rfl rfl rfl rfl rfl (e_move (v := .int _ _) rfl) ?_
              refine pg_val rfl rfl rfl rfl rfl (e_move (v := .int _ _) rfl) ?_
              refine pg_val rfl rfl rfl rfl rfl (e_move (v := .slice _ _ _) rfl) ?_
              refine pg_does rfl rfl rfl rfl rfl (d_call Try.func38 nm38 rfl rfl (mk_check _ _ _ _ _ _ _ M (by with_reducible assumption) hs (S.rdOld RM rfl) hM (by omega))) ?_
              rintro _ w ⟨rfl, hB⟩
              have S := S.below hB
              rcases Classical.em (mcheck x43 s a m M) with hg63 | hg63
              · rw [decide_eq_true hg63]
                refine pg_val rfl rfl rfl rfl rfl (e_pick_f rfl rfl) ?_
                refine p_val (e_pick_t rfl rfl) rfl ?_
                refine p_val (e_move (v := .bool _) rfl) rfl ?_
                refine p_val (e_pick_t rfl rfl) rfl ?_
                refine p_val (e_move (v := .bool _) rfl) rfl ?_
                refine pg_does rfl rfl rfl rfl rfl (d_call Try.func39 nm39 rfl rfl (l3awake _)) ?_
                rintro _ w ⟨rfl, hB⟩
                have S := S.below hB
                refine p_val (e_pick_t rfl rfl) rfl ?_
                refine p_val (e_assign (v := .bool _) rfl) rfl ?_
                exact p_nil (x_then ⟨_, rfl, _, _, upds_eq ⟨rfl, trivial⟩, by first | (simp only [decide_eq_true_eq, eq_self, true_iff, iff_true, iff_false, Bool.false_eq_true, false_iff, ge_iff_le, gt_iff_lt, true_and, and_true, false_and, and_false, true_or, or_true, false_or, or_false, not_true_eq_false, not_false_eq_true]; omega) | simp | omega | simp_all, S⟩)
              · exact False.elim (by first | exact absurd hg56 (by decide) | exact hg63 ⟨by omega, by omega, by omega, by rw [hk43]; simp⟩)
          · exact False.elim (by first | exact dec_ne ⟨fun h => Option.some.inj (by have h9 := h.2.2.2; rw [hk43] at h9; simpa using h9), fun h => ⟨by omega, by omega, by omega, by rw [hk43, h]; simp⟩⟩ hg53 | (have hq : mcheck r s a m M := by { simpa using hg53 }; have h9 := hq.2.2.2; rw [hk43] at h9; simp at h9))
        · skip
          refine p_val (e_move (v := .bool _) rfl) rfl ?_
          refine p_no rfl rfl rfl rfl rfl ?_
          refine p_no rfl rfl rfl rfl rfl ?_
          refine p_no rfl rfl rfl rfl rfl ?_
          refine p_val (e_pick_f rfl rfl) rfl ?_
          refine p_valb (e_eqlB rfl rfl Try.underlying4) rfl (fun hg53 => ?_) (fun hg53 => ?_)
          · refine p_val (e_move (v := .bool _) rfl) rfl ?_
            refine pg_val rfl rfl rfl rfl rfl (e_move (v := .bool _) rfl) ?_
            -- TODO split at a move
            refine pg_valb rfl rfl rfl rfl rfl (e_not rfl) (fun hg56 => ?_) (fun hg56 => ?_)
            · refine pg_val rfl rfl rfl rfl rfl (e_move (v := .bool _) rfl) ?_
              refine p_no rfl rfl rfl rfl rfl ?_
              refine p_no rfl rfl rfl rfl rfl ?_
              refine p_no rfl rfl rfl rfl rfl ?_
              refine p_no rfl rfl rfl rfl rfl ?_
              refine p_no rfl rfl rfl rfl rfl ?_
              refine p_no rfl rfl rfl rfl rfl ?_
              refine pg_val rfl rfl rfl rfl rfl (e_pick_t rfl rfl) ?_
              refine p_val (e_pick_t rfl rfl) rfl ?_
              refine p_val (e_move (v := .bool _) rfl) rfl ?_
              refine p_val (e_pick_t rfl rfl) rfl ?_
              refine p_val (e_move (v := .bool _) rfl) rfl ?_
              refine pg_does rfl rfl rfl rfl rfl (d_call Try.func39 nm39 rfl rfl (l3awake _)) ?_
              rintro _ w ⟨rfl, hB⟩
              have S := S.below hB
              refine p_val (e_pick_t rfl rfl) rfl ?_
              refine p_val (e_assign (v := .bool _) rfl) rfl ?_
              exact p_nil (x_then ⟨_, rfl, _, _, upds_eq ⟨rfl, trivial⟩, by first | (simp only [decide_eq_true_eq, eq_self, true_iff, iff_true, iff_false, Bool.false_eq_true, false_iff, ge_iff_le, gt_iff_lt, true_and, and_true, false_and, and_false, true_or, or_true, false_or, or_false, not_true_eq_false, not_false_eq_true]; omega) | simp | omega | simp_all, S⟩)
            · refine pg_val rfl rfl rfl rfl rfl (e_move (v := .bool _) rfl) ?_
              refine pg_val rfl rfl rfl rfl rfl (e_loadW 0 rfl ag29 sz29 S rfl rfl (by first | with_reducible assumption | (rw [bv_length]; with_reducible assumption) | (rw [List.size_toArray, bv_length]; with_reducible assumption) | (simp [cat, hr, hs, length_mleaf, length_mroot]; done) | (simp [cat, hr, hs, length_mleaf, length_mroot]; omega) | rfl)) ?_
              refine pg_val rfl rfl rfl rfl rfl (e_loadW 1 rfl ag29 sz29 S rfl rfl (by first | with_reducible assumption | (rw [bv_length]; with_reducible assumption) | (rw [List.size_toArray, bv_length]; with_reducible assumption) | (simp [cat, hr, hs, length_mleaf, length_mroot]; done) | (simp [cat, hr, hs, length_mleaf, length_mroot]; omega) | rfl)) ?_
              refine pg_val rfl rfl rfl rfl rfl (e_move (v := .int _ _) rfl) ?_
              refine pg_val rfl rfl rfl rfl rfl (e_move (v := .int _ _) rfl) ?_
              refine pg_val rfl rfl rfl rfl rfl (e_move (v := .slice _ _ _) rfl) ?_
              refine pg_does rfl rfl rfl rfl rfl (d_call Try.func38 nm38 rfl rfl (mk_check _ _ _ _ _ _ _ M (by with_reducible assumption) hs (S.rdOld RM rfl) hM (by omega))) ?_
              rintro _ w ⟨rfl, hB⟩
              have S := S.below hB
              rcases Classical.em (mcheck x43 s a m M) with hg63 | hg63
              · rw [decide_eq_true hg63]
                refine pg_val rfl rfl rfl rfl rfl (e_pick_f rfl rfl) ?_
                refine p_val (e_pick_t rfl rfl) rfl ?_
                refine p_val (e_move (v := .bool _) rfl) rfl ?_
                refine p_val (e_pick_t rfl rfl) rfl ?_
                refine p_val (e_move (v := .bool _) rfl) rfl ?_
                refine pg_does rfl rfl rfl rfl rfl (d_call Try.func39 nm39 rfl rfl (l3awake _)) ?_
                rintro _ w ⟨rfl, hB⟩
                have S := S.below hB
                refine p_val (e_pick_t rfl rfl) rfl ?_
                refine p_val (e_assign (v := .bool _) rfl) rfl ?_
                exact p_nil (x_then ⟨_, rfl, _, _, upds_eq ⟨rfl, trivial⟩, by first | (simp only [decide_eq_true_eq, eq_self, true_iff, iff_true, iff_false, Bool.false_eq_true, false_iff, ge_iff_le, gt_iff_lt, true_and, and_true, false_and, and_false, true_or, or_true, false_or, or_false, not_true_eq_false, not_false_eq_true]; omega) | simp | omega | simp_all, S⟩)
              · exact False.elim (by first | exact absurd hg56 (by decide) | exact hg63 ⟨by omega, by omega, by omega, by rw [hk43]; simp⟩)
          · exact False.elim (by first | exact dec_ne ⟨fun h => Option.some.inj (by have h9 := h.2.2.2; rw [hk43] at h9; simpa using h9), fun h => ⟨by omega, by omega, by omega, by rw [hk43, h]; simp⟩⟩ hg53 | (have hq : mcheck r s a m M := by { simpa using hg53 }; have h9 := hq.2.2.2; rw [hk43] at h9; simp at h9))
      · rintro f w ⟨u, b10, rfl, hb10, S⟩
        refine x_then (s_ret ?_)
        exact post1 (v := .bool _) Try.results7 rfl (⟨by rw [hb10.2 trivial], S.to_below⟩)
theorem mclimbs_n (w0 : World) (r s : List Nat) (a m : Int) (A : Option Addr) (n c : Nat) (L : List (List Nat)) (hn : L.length = n) (hr : r.length = 32) (hs : s.length = 32) (R : Rd w0 32 A n (sv L)) (hL : All32 L) (cR : n ≤ c) :
     Ret Try.prog 7 [.agg (bv r).toArray, .agg (bv s).toArray, .int .i64 a, .int .i64 m, .slice A n c] w0 fun v w' => v = .bool true ∧ Below w0.heap.size w0 w' := by
  subst hn; exact mclimbs_calls w0 r s a m A c L hr hs R hL cR
end Go.Proofs.Ytdhfiamgmokfbaa

/- Chapter 19's laws. It proves no statement by itself. -/
set_option linter.unusedSimpArgs false
set_option linter.unusedVariables false
set_option maxRecDepth 100000
set_option maxHeartbeats 2000000
namespace Go.Proofs.Ytdhfiamgmokfbaa
open Go Go.RowKit E
attribute [local irreducible] wpList seqH treeH
abbrev zl (A : Option Addr) (m : Nat) : Sl TxV := ⟨A, m, m, List.replicate m tx0⟩
theorem zl_ok {w : World} {A : Option Addr} {m : Nat} (R : Rd w 40 A m ((List.replicate m tx0).flatMap txV)) : TxsOk w [] (zl A m) :=
  ⟨List.length_replicate .., Nat.le_refl m, (fun x hx => by rw [(List.mem_replicate.1 hx).2]; exact tx0_ok _ _), R, Off.nil⟩
theorem zl_sm {A : Option Addr} {m : Nat} : ∀ x ∈ (zl A m).xs, TxSm x := fun x hx => by rw [(List.mem_replicate.1 hx).2]; exact tx0_sm
theorem zl_big {A : Option Addr} {m : Nat} (h : 64 < m) : mkE head0 m = 6 ∧ (mkX head0 (zl A m)).length = 0 := by
  have e : mkE head0 m = 6 := (if_neg (by decide)).trans (if_pos h)
  refine ⟨e, ?_⟩
  unfold mkX
  rw [if_neg (by show ¬ mkE head0 m = 0; rw [e]; decide)]; rfl
theorem zl_fit {A : Option Addr} {m : Nat} (h : ¬ 64 < m) : mkE head0 m = 0 ∧ (mkX head0 (zl A m)).length = m := by
  have e : mkE head0 m = 0 := (if_neg (by decide)).trans (if_neg h)
  refine ⟨e, ?_⟩
  unfold mkX
  rw [if_pos (show mkE head0 m = 0 from e)]; exact List.length_replicate ..
theorem bfull_calls (w0 : World) (n : Int) :
    Ret Try.prog 11 [.int .i64 n] w0 fun v w' => v = .bool true ∧ Below w0.heap.size w0 w' := by
  refine enter Try.func11 rfl Try.ntmps11 (Nat.le_of_ble_eq_true rfl) ?_
  have S := St.init w0
  refine s_seq (s_plain ?_)
  refine p_val (e_assign (v := .bool _) rfl) rfl ?_
  refine p_nil (x_then (s_seq (s_seq ?_)))
  refine s_cutK (ks := []) (ps := []) [(0, .int _ _)] ⟨rfl, trivial⟩ S (fun keep ks ps f' w' => ∃ u bb, f' = upds u ((10, .bool bb) :: keep) ∧ (bb = true ↔ (n < 60 ∨ 70 < n)) ∧ St w0 w' [] ks ps) ?_ ?_
  · refine s_plain ?_
    refine p_val (e_move (v := .int _ _) rfl) rfl ?_
    refine p_valB (e_lss rfl rfl) rfl (fun hg6 => ?_) (fun hg6 => ?_)
    · refine p_val (e_move (v := .bool _) rfl) rfl ?_
      refine p_no rfl rfl rfl rfl rfl ?_
      refine p_no rfl rfl rfl rfl rfl ?_
      refine p_val (e_pick_t rfl rfl) rfl ?_
      exact p_nil (x_then ⟨_, rfl, _, _, upds_eq ⟨rfl, rfl, trivial⟩, by first | (simp only [decide_eq_true_eq, eq_self, true_iff, iff_true, iff_false, Bool.false_eq_true, false_iff, ge_iff_le, gt_iff_lt, true_and, and_true, false_and, and_false, true_or, or_true, false_or, or_false, not_true_eq_false, not_false_eq_true]; omega) | (simp; done) | omega | (simp_all; done), S⟩)
    · refine p_val (e_move (v := .bool _) rfl) rfl ?_
      refine pg_val rfl rfl rfl rfl rfl (e_move (v := .int _ _) rfl) ?_
      refine pg_val rfl rfl rfl rfl rfl (e_gtr rfl rfl) ?_
      refine p_val (e_pick_f rfl rfl) rfl ?_
      exact p_nil (x_then ⟨_, rfl, _, _, upds_eq ⟨rfl, rfl, trivial⟩, by first | (simp only [decide_eq_true_eq, eq_self, true_iff, iff_true, iff_false, Bool.false_eq_true, false_iff, ge_iff_le, gt_iff_lt, true_and, and_true, false_and, and_false, true_or, or_true, false_or, or_false, not_true_eq_false, not_false_eq_true]; omega) | (simp; done) | omega | (simp_all; done), S⟩)
  · rintro f w ⟨u, b10, rfl, hb10, S⟩
    refine x_then ?_
    refine s_condb rfl (fun hc10 => ?_) (fun hc10 => ?_)
    · have hp10 : (n < 60 ∨ 70 < n) := hb10.1 hc10
      refine s_seq (s_plain ?_)
      refine p_does (d_call Try.func49 nm49 rfl rfl (l19awake _)) rfl ?_
      rintro _ w ⟨rfl, hB⟩
      have S := S.below hB
      refine p_val (e_assign (v := .bool _) rfl) rfl ?_
      refine p_nil (x_then (s_ret (x_then_ret ?_)))
      exact post1 (v := .bool _) Try.results11 rfl (⟨rfl, S.to_below⟩)
    · have hp10 : ¬ (n < 60 ∨ 70 < n) := fun h => by rw [hb10.2 h] at hc10; cases hc10
      obtain ⟨m, hm⟩ : ∃ m : Nat, n = (m : Int) := ⟨n.toNat, by omega⟩
      subst hm
      refine s_skip (x_then (s_seq (s_plain ?_)))
      refine p_val (e_buildS0 bt66) rfl ?_
      refine p_val (e_move (v := .int _ _) rfl) rfl ?_
      refine p_does (d_makeN (c := txV) (z0 := tx0) S Try.underlying67 el87 zv87 rfl m rfl rfl (by omega) (by unfold maxLen; omega)) rfl ?_
      rintro _ w ⟨b15, rfl, S⟩
      refine p_does (d_call Try.func52 nm52 rfl rfl (bk_make _ head0 head0_ok (zl (some ⟨b15, 0, none⟩) m) (zl_ok (S.rdRw 0 rfl rfl)) (by show m ≤ 1000; omega) zl_sm)) rfl ?_
      rintro _ w ⟨k16, c16, rfl, T⟩
      have S := S.merge T rfl
      refine p_val (e_move (v := .tuple _) rfl) rfl ?_
      refine p_val (e_extract rfl rfl) rfl ?_
      refine p_val (e_extract rfl rfl) rfl ?_
      refine p_does (d_allocA S zs69) rfl ?_
      rintro _ w ⟨b3, rfl, S⟩
      refine p_does (d_storeW S 0 rfl rfl (by first | exact bv_one _ | exact sv_one _ | exact iv_one _ | with_reducible assumption | (refine One.mem ?_; repeat (first | exact One.bv _ | exact One.sv _ | exact One.iv _ | exact One.nil | exact One.cat0 | refine One.cat1 ?_ ?_ | refine One.cons rfl ?_ | refine One.append ?_ ?_))) sz69 (by first | with_reducible assumption | (rw [bv_length]; with_reducible assumption) | (rw [List.size_toArray, bv_length]; with_reducible assumption) | (simp [cat, Value.cells, blkC, (mkH_ok _ _).1, (mkH_ok _ _).2, length_zsum, zc69, zc66, zc87]; done) | (simp [cat, Value.cells, blkC, (mkH_ok _ _).1, (mkH_ok _ _).2, length_zsum, zc69, zc66, zc87]; omega) | rfl) rfl rfl (by first | with_reducible assumption | (rw [bv_length]; with_reducible assumption) | (rw [List.size_toArray, bv_length]; with_reducible assumption) | (simp [cat, Value.cells, blkC, (mkH_ok _ _).1, (mkH_ok _ _).2, length_zsum, zc69, zc66, zc87]; done) | (simp [cat, Value.cells, blkC, (mkH_ok _ _).1, (mkH_ok _ _).2, length_zsum, zc69, zc66, zc87]; omega) | rfl)) rfl ?_
      intro _ w S
      refine p_val (e_assign (v := .int _ _) rfl) rfl ?_
      refine p_nil (x_then (s_seq (s_seq (s_plain ?_))))
      refine p_val (e_move (v := .int _ _) rfl) rfl ?_
      refine p_val (e_gtr rfl rfl) rfl ?_
      refine p_nil (x_then ?_)
      refine s_cond rfl (fun hc20 => ?_) (fun hc20 => ?_)
      · have hz := zl_big (A := some ⟨b15, 0, none⟩) (m := m) (by omega)
        refine s_seq ?_
        refine s_cutK (ks := [some b3, k16, some b15]) (ps := [Ex _ _, Rw _ _ _ _ _, Rw _ _ _ _ _]) [] trivial S (fun keep ks ps f' w' => ∃ u bb, f' = upds u ((2, .bool bb) :: keep) ∧ (bb = true ↔ True) ∧ St w0 w' [] ks ps) ?_ ?_
        · refine s_plain ?_
          refine p_val (e_field rfl Try.underlying69 rfl sz67 (by decide)) rfl ?_
          refine p_val (e_loadF1 (i := 4) (off := 66) rfl ag67 S (j := 0) rfl rfl rfl (by first | with_reducible assumption | (rw [bv_length]; with_reducible assumption) | (rw [List.size_toArray, bv_length]; with_reducible assumption) | (simp [cat, Value.cells, blkC, (mkH_ok _ _).1, (mkH_ok _ _).2, length_zsum, zc69, zc66, zc87]; done) | (simp [cat, Value.cells, blkC, (mkH_ok _ _).1, (mkH_ok _ _).2, length_zsum, zc69, zc66, zc87]; omega) | rfl)) rfl ?_
          refine p_val (e_len rfl Try.underlying67) rfl ?_
          refine p_valB (e_eql rfl rfl) rfl (fun hg24 => ?_) (fun hg24 => ?_)
          · refine p_val (e_move (v := .bool _) rfl) rfl ?_
            refine pg_val rfl rfl rfl rfl rfl (e_move (v := .int _ _) rfl) ?_
            refine pg_valB rfl rfl rfl rfl rfl (e_eql rfl rfl) (fun hg27 => ?_) (fun hg27 => ?_)
            · refine p_val (e_pick_t rfl rfl) rfl ?_
              refine p_val (e_move (v := .bool _) rfl) rfl ?_
              refine pg_does rfl rfl rfl rfl rfl (d_call Try.func49 nm49 rfl rfl (l19awake _)) ?_
              rintro _ w ⟨rfl, hB⟩
              have S := S.below hB
              refine p_val (e_pick_t rfl rfl) rfl ?_
              refine p_val (e_assign (v := .bool _) rfl) rfl ?_
              exact p_nil (x_then ⟨_, rfl, _, _, upds_eq ⟨rfl, trivial⟩, by first | (simp only [decide_eq_true_eq, eq_self, true_iff, iff_true, iff_false, Bool.false_eq_true, false_iff, ge_iff_le, gt_iff_lt, true_and, and_true, false_and, and_false, true_or, or_true, false_or, or_false, not_true_eq_false, not_false_eq_true]; omega) | (simp; done) | omega | (simp_all; done), S⟩)
            · exact False.elim (hg27 hz.1)
          · exact False.elim (hg24 (by rw [hz.2]; rfl))
        · rintro f w ⟨u, b2, rfl, hb2, S⟩
          refine x_then (s_ret (x_then_ret ?_))
          exact post1 (v := .bool _) Try.results11 rfl (by rw [hb2.2 trivial]; exact ⟨rfl, S.to_below⟩)
      · have hz := zl_fit (A := some ⟨b15, 0, none⟩) (m := m) (by omega)
        refine s_skip (x_then (s_seq ?_))
        refine s_cutK (ks := [some b3, k16, some b15]) (ps := [Ex _ _, Rw _ _ _ _ _, Rw _ _ _ _ _]) [] trivial S (fun keep ks ps f' w' => ∃ u bb, f' = upds u ((2, .bool bb) :: keep) ∧ (bb = true ↔ True) ∧ St w0 w' [] ks ps) ?_ ?_
        · refine s_plain ?_
          refine p_val (e_field rfl Try.underlying69 rfl sz67 (by decide)) rfl ?_
          refine p_val (e_loadF1 (i := 4) (off := 66) rfl ag67 S (j := 0) rfl rfl rfl (by first | with_reducible assumption | (rw [bv_length]; with_reducible assumption) | (rw [List.size_toArray, bv_length]; with_reducible assumption) | (simp [cat, Value.cells, blkC, (mkH_ok _ _).1, (mkH_ok _ _).2, length_zsum, zc69, zc66, zc87]; done) | (simp [cat, Value.cells, blkC, (mkH_ok _ _).1, (mkH_ok _ _).2, length_zsum, zc69, zc66, zc87]; omega) | rfl)) rfl ?_
          refine p_val (e_len rfl Try.underlying67) rfl ?_
          refine p_val (e_move (v := .int _ _) rfl) rfl ?_
          refine p_valB (e_eql rfl rfl) rfl (fun hg36 => ?_) (fun hg36 => ?_)
          · refine p_val (e_move (v := .bool _) rfl) rfl ?_
            refine pg_val rfl rfl rfl rfl rfl (e_move (v := .int _ _) rfl) ?_
            refine pg_valB rfl rfl rfl rfl rfl (e_eql rfl rfl) (fun hg39 => ?_) (fun hg39 => ?_)
            · refine p_val (e_pick_t rfl rfl) rfl ?_
              refine p_val (e_move (v := .bool _) rfl) rfl ?_
              refine pg_does rfl rfl rfl rfl rfl (d_call Try.func49 nm49 rfl rfl (l19awake _)) ?_
              rintro _ w ⟨rfl, hB⟩
              have S := S.below hB
              refine p_val (e_pick_t rfl rfl) rfl ?_
              refine p_val (e_assign (v := .bool _) rfl) rfl ?_
              exact p_nil (x_then ⟨_, rfl, _, _, upds_eq ⟨rfl, trivial⟩, by first | (simp only [decide_eq_true_eq, eq_self, true_iff, iff_true, iff_false, Bool.false_eq_true, false_iff, ge_iff_le, gt_iff_lt, true_and, and_true, false_and, and_false, true_or, or_true, false_or, or_false, not_true_eq_false, not_false_eq_true]; omega) | (simp; done) | omega | (simp_all; done), S⟩)
            · exact False.elim (hg39 hz.1)
          · exact False.elim (hg36 (by rw [hz.2]))
        · rintro f w ⟨u, b2, rfl, hb2, S⟩
          refine x_then (s_ret ?_)
          exact post1 (v := .bool _) Try.results11 rfl (by rw [hb2.2 trivial]; exact ⟨rfl, S.to_below⟩)
theorem brights_calls (w0 : World) (h : HeadV) (hk : h.ok) (L : Sl TxV) (hL : TxsOk w0 [] L) :
    Ret Try.prog 10 [.agg (cat (blkC h L.A L.n L.c)).toArray] w0 fun v w' => v = .bool true ∧ Below w0.heap.size w0 w' := by
  refine enter Try.func10 rfl Try.ntmps10 (Nat.le_of_ble_eq_true rfl) ?_
  have S := St.init w0
  have k1 := hk.1
  have k2 := hk.2
  have hal := txsums_all L.xs
  have hln : (L.xs.map txsum).length = L.n := by rw [List.length_map]; exact hL.1
  refine s_seq (s_plain ?_)
  refine p_does (d_boxA S rfl) rfl ?_
  rintro _ w ⟨b1, rfl, S⟩
  refine p_val (e_assign (v := .bool _) rfl) rfl ?_
  refine p_nil (x_then (s_seq (s_seq (s_plain ?_))))
  refine p_val (e_field rfl Try.underlying69 rfl sz67 (by decide)) rfl ?_
  refine p_val (e_loadF1 (i := 4) (off := 66) rfl ag67 S (j := 0) rfl rfl rfl (by first | with_reducible assumption | (rw [bv_length]; with_reducible assumption) | (rw [List.size_toArray, bv_length]; with_reducible assumption) | (simp [cat, Value.cells, blkC, hk.1, hk.2, length_mroot]; done) | (simp [cat, Value.cells, blkC, hk.1, hk.2, length_mroot]; omega) | rfl)) rfl ?_
  refine p_does (d_call Try.func48 nm48 rfl rfl (l19small _ L (hL.carry (S.carry0)))) rfl ?_
  rintro _ w ⟨rfl, hB⟩
  have S := S.below hB
  refine p_val (e_not rfl) rfl ?_
  refine p_nil (x_then ?_)
  refine s_condb rfl (fun hc7 => ?_) (fun hc7 => ?_)
  · refine s_seq (s_plain ?_)
    refine p_does (d_call Try.func49 nm49 rfl rfl (l19awake _)) rfl ?_
    rintro _ w ⟨rfl, hB⟩
    have S := S.below hB
    refine p_val (e_assign (v := .bool _) rfl) rfl ?_
    refine p_nil (x_then (s_ret (x_then_ret ?_)))
    exact post1 (v := .bool _) Try.results10 rfl (⟨rfl, S.to_below⟩)
  · have hsm : TxsSm L := by simpa using hc7
    have hs20 := hsm.1
    refine s_skip (x_then (s_seq ?_))
    refine s_cutK (ks := [some b1]) (ps := [Ex _ _]) [(1, .pointer _)] ⟨rfl, trivial⟩ S (fun keep ks ps f' w' => ∃ u bb, f' = upds u ((3, .bool bb) :: keep) ∧ (bb = true ↔ (bright h L)) ∧ St w0 w' [] ks ps) ?_ ?_
    · refine s_drawK (ks := [some b1]) (ps := [Ex _ _]) S [(true, 0), (true, 1), (true, 2), (true, 3), (true, 4), (true, 5), (true, 6), (true, 7), (true, 8), (true, 9), (true, 10), (true, 11), (true, 12), (true, 13), (true, 14), (true, 15), (true, 16), (true, 17), (true, 18), (true, 19), (true, 20), (true, 21), (true, 22), (true, 23), (true, 24), (false, 25), (false, 26), (true, 27), (true, 28)] [29] [29] mixed (by kernel_rfl) (by repeat (first | exact Calm.post _ _ _ | refine Calm.then ?_ _ | refine Calm.inB ?_ _)) (fun hS => ?_)
      have S := S.drew
      refine q_val (fun w hS => e_field rfl Try.underlying69 rfl sz66 (by decide)) rfl hS ?_
      refine q_val (fun w hS => e_field rfl Try.underlying66 rfl sz3 (by decide)) rfl hS ?_
      refine q_val (fun w hS => e_loadF1 (i := 3) (off := 65) rfl ag3 hS (j := 0) rfl rfl rfl (by first | with_reducible assumption | (rw [bv_length]; with_reducible assumption) | (rw [List.size_toArray, bv_length]; with_reducible assumption) | (simp [cat, Value.cells, blkC, hk.1, hk.2, length_mroot]; done) | (simp [cat, Value.cells, blkC, hk.1, hk.2, length_mroot]; omega) | rfl)) rfl hS ?_
      refine q_val (fun w hS => e_field rfl Try.underlying69 rfl sz67 (by decide)) rfl hS ?_
      refine q_val (fun w hS => e_loadF1 (i := 4) (off := 66) rfl ag67 hS (j := 0) rfl rfl rfl (by first | with_reducible assumption | (rw [bv_length]; with_reducible assumption) | (rw [List.size_toArray, bv_length]; with_reducible assumption) | (simp [cat, Value.cells, blkC, hk.1, hk.2, length_mroot]; done) | (simp [cat, Value.cells, blkC, hk.1, hk.2, length_mroot]; omega) | rfl)) rfl hS ?_
      refine q_val (fun w hS => e_len rfl Try.underlying67) rfl hS ?_
      refine q_valB (fun w hS => e_eql rfl rfl) rfl hS (fun hg15 => ?_) (fun hg15 => ?_)
      · refine q_val (fun w hS => e_move (v := .bool _) rfl) rfl hS ?_
        refine qg_val rfl rfl rfl rfl rfl (fun w hS => e_field rfl Try.underlying69 rfl sz66 (by decide)) hS ?_
        refine qg_val rfl rfl rfl rfl rfl (fun w hS => e_field rfl Try.underlying66 rfl sz3 (by decide)) hS ?_
        refine qg_val rfl rfl rfl rfl rfl (fun w hS => e_loadF1 (i := 1) (off := 32) rfl ag3 hS (j := 0) rfl rfl rfl (by first | with_reducible assumption | (rw [bv_length]; with_reducible assumption) | (rw [List.size_toArray, bv_length]; with_reducible assumption) | (simp [cat, Value.cells, blkC, hk.1, hk.2, length_mroot]; done) | (simp [cat, Value.cells, blkC, hk.1, hk.2, length_mroot]; omega) | rfl)) hS ?_
        refine qg_valB rfl rfl rfl rfl rfl (fun w hS => e_geq rfl rfl) hS (fun hg20 => ?_) (fun hg20 => ?_)
        · refine q_val (fun w hS => e_pick_t rfl rfl) rfl hS ?_
          refine q_val (fun w hS => e_move (v := .bool _) rfl) rfl hS ?_
          refine qg_val rfl rfl rfl rfl rfl (fun w hS => e_field rfl Try.underlying69 rfl sz66 (by decide)) hS ?_
          refine qg_val rfl rfl rfl rfl rfl (fun w hS => e_field rfl Try.underlying66 rfl sz3 (by decide)) hS ?_
          refine qg_val rfl rfl rfl rfl rfl (fun w hS => e_loadF1 (i := 1) (off := 32) rfl ag3 hS (j := 0) rfl rfl rfl (by first | with_reducible assumption | (rw [bv_length]; with_reducible assumption) | (rw [List.size_toArray, bv_length]; with_reducible assumption) | (simp [cat, Value.cells, blkC, hk.1, hk.2, length_mroot]; done) | (simp [cat, Value.cells, blkC, hk.1, hk.2, length_mroot]; omega) | rfl)) hS ?_
          refine qg_valB rfl rfl rfl rfl rfl (fun w hS => e_leq rfl rfl) hS (fun hg26 => ?_) (fun hg26 => ?_)
          · refine q_val (fun w hS => e_pick_t rfl rfl) rfl hS ?_
            refine q_val (fun w hS => e_move (v := .bool _) rfl) rfl hS ?_
            refine qg_val rfl rfl rfl rfl rfl (fun w hS => e_field rfl Try.underlying69 rfl sz66 (by decide)) hS ?_
            refine qg_val rfl rfl rfl rfl rfl (fun w hS => e_field rfl Try.underlying66 rfl sz29 (by decide)) hS ?_
            refine qg_val rfl rfl rfl rfl rfl (fun w hS => e_loadFA (i := 2) (off := 33) rfl ag29 sz29 (by decide) hS (j := 0) rfl rfl rfl (by first | with_reducible assumption | (rw [bv_length]; with_reducible assumption) | (rw [List.size_toArray, bv_length]; with_reducible assumption) | (simp [cat, Value.cells, blkC, hk.1, hk.2, length_mroot]; done) | (simp [cat, Value.cells, blkC, hk.1, hk.2, length_mroot]; omega) | rfl) (by first | with_reducible assumption | (rw [bv_length]; with_reducible assumption) | (rw [List.size_toArray, bv_length]; with_reducible assumption) | (simp [cat, Value.cells, blkC, hk.1, hk.2, length_mroot]; done) | (simp [cat, Value.cells, blkC, hk.1, hk.2, length_mroot]; omega) | rfl)) hS ?_
            refine qg_val rfl rfl rfl rfl rfl (fun w hS => e_field rfl Try.underlying69 rfl sz67 (by decide)) hS ?_
            refine qg_val rfl rfl rfl rfl rfl (fun w hS => e_loadF1 (i := 4) (off := 66) rfl ag67 hS (j := 0) rfl rfl rfl (by first | with_reducible assumption | (rw [bv_length]; with_reducible assumption) | (rw [List.size_toArray, bv_length]; with_reducible assumption) | (simp [cat, Value.cells, blkC, hk.1, hk.2, length_mroot]; done) | (simp [cat, Value.cells, blkC, hk.1, hk.2, length_mroot]; omega) | rfl)) hS ?_
            refine qg_does rfl rfl rfl rfl rfl (d_call Try.func50 nm50 rfl rfl (l19sums _ L (hL.carry (S.carry0)) (by omega) hsm.2)) ?_
            rintro _ w ⟨k34, c34, rfl, T⟩
            have S := S.merge T rfl
            have hS := S.pk [1] rfl
            refine ⟨hS, ?_⟩
            refine qg_does rfl rfl rfl rfl rfl (d_call Try.func42 nm42 rfl rfl (mk_root _ _ _ (L.xs.map txsum) (S.rdRw 0 rfl rfl) hal (by omega))) ?_
            rintro _ w ⟨rfl, hB⟩
            have S := S.below hB
            have hS := S.pk [1] rfl
            refine ⟨hS, ?_⟩
            refine qg_val rfl rfl rfl rfl rfl (fun w hS => EqT.sum eq29 gd29 rfl rfl (by first | with_reducible assumption | (rw [bv_length]; with_reducible assumption) | (rw [List.size_toArray, bv_length]; with_reducible assumption) | (simp [cat, Value.cells, blkC, hk.1, hk.2, length_mroot]; done) | (simp [cat, Value.cells, blkC, hk.1, hk.2, length_mroot]; omega) | rfl) (by first | with_reducible assumption | (rw [bv_length]; with_reducible assumption) | (rw [List.size_toArray, bv_length]; with_reducible assumption) | (simp [cat, Value.cells, blkC, hk.1, hk.2, length_mroot]; done) | (simp [cat, Value.cells, blkC, hk.1, hk.2, length_mroot]; omega) | rfl)) hS ?_
            refine q_val (fun w hS => e_pick_t rfl rfl) rfl hS ?_
            refine q_nil ?_
            refine p_val (e_assign (v := .bool _) rfl) rfl ?_
            exact p_nil (x_then ⟨_, rfl, _, _, upds_eq ⟨rfl, rfl, trivial⟩, by simp; unfold bright; first | exact ⟨fun h => ⟨by omega, by omega, by omega, by omega, h⟩, fun h => h.2.2.2.2⟩ | exact (fun h => by have := h.1; have := h.2.1; have := h.2.2.1; have := h.2.2.2.1; omega), S.pk [1] rfl⟩)
          · refine q_val (fun w hS => e_pick_t rfl rfl) rfl hS ?_
            refine q_val (fun w hS => e_move (v := .bool _) rfl) rfl hS ?_
            refine q_no rfl rfl rfl rfl rfl hS ?_
            refine q_no rfl rfl rfl rfl rfl hS ?_
            refine q_no rfl rfl rfl rfl rfl hS ?_
            refine q_no rfl rfl rfl rfl rfl hS ?_
            refine q_no rfl rfl rfl rfl rfl hS ?_
            refine q_no rfl rfl rfl rfl rfl hS ?_
            refine q_no rfl rfl rfl rfl rfl hS ?_
            refine q_no rfl rfl rfl rfl rfl hS ?_
            refine q_val (fun w hS => e_pick_f rfl rfl) rfl hS ?_
            refine q_nil ?_
            refine p_val (e_assign (v := .bool _) rfl) rfl ?_
            exact p_nil (x_then ⟨_, rfl, _, _, upds_eq ⟨rfl, rfl, trivial⟩, by simp; unfold bright; first | exact ⟨fun h => ⟨by omega, by omega, by omega, by omega, h⟩, fun h => h.2.2.2.2⟩ | exact (fun h => by have := h.1; have := h.2.1; have := h.2.2.1; have := h.2.2.2.1; omega), S⟩)
        · refine q_val (fun w hS => e_pick_t rfl rfl) rfl hS ?_
          refine q_val (fun w hS => e_move (v := .bool _) rfl) rfl hS ?_
          refine q_no rfl rfl rfl rfl rfl hS ?_
          refine q_no rfl rfl rfl rfl rfl hS ?_
          refine q_no rfl rfl rfl rfl rfl hS ?_
          refine q_no rfl rfl rfl rfl rfl hS ?_
          refine q_val (fun w hS => e_pick_f rfl rfl) rfl hS ?_
          refine q_val (fun w hS => e_move (v := .bool _) rfl) rfl hS ?_
          refine q_no rfl rfl rfl rfl rfl hS ?_
          refine q_no rfl rfl rfl rfl rfl hS ?_
          refine q_no rfl rfl rfl rfl rfl hS ?_
          refine q_no rfl rfl rfl rfl rfl hS ?_
          refine q_no rfl rfl rfl rfl rfl hS ?_
          refine q_no rfl rfl rfl rfl rfl hS ?_
          refine q_no rfl rfl rfl rfl rfl hS ?_
          refine q_no rfl rfl rfl rfl rfl hS ?_
          refine q_val (fun w hS => e_pick_f rfl rfl) rfl hS ?_
          refine q_nil ?_
          refine p_val (e_assign (v := .bool _) rfl) rfl ?_
          exact p_nil (x_then ⟨_, rfl, _, _, upds_eq ⟨rfl, rfl, trivial⟩, by simp; unfold bright; first | exact ⟨fun h => ⟨by omega, by omega, by omega, by omega, h⟩, fun h => h.2.2.2.2⟩ | exact (fun h => by have := h.1; have := h.2.1; have := h.2.2.1; have := h.2.2.2.1; omega), S⟩)
      · refine q_val (fun w hS => e_move (v := .bool _) rfl) rfl hS ?_
        refine q_no rfl rfl rfl rfl rfl hS ?_
        refine q_no rfl rfl rfl rfl rfl hS ?_
        refine q_no rfl rfl rfl rfl rfl hS ?_
        refine q_no rfl rfl rfl rfl rfl hS ?_
        refine q_val (fun w hS => e_pick_f rfl rfl) rfl hS ?_
        refine q_val (fun w hS => e_move (v := .bool _) rfl) rfl hS ?_
        refine q_no rfl rfl rfl rfl rfl hS ?_
        refine q_no rfl rfl rfl rfl rfl hS ?_
        refine q_no rfl rfl rfl rfl rfl hS ?_
        refine q_no rfl rfl rfl rfl rfl hS ?_
        refine q_val (fun w hS => e_pick_f rfl rfl) rfl hS ?_
        refine q_val (fun w hS => e_move (v := .bool _) rfl) rfl hS ?_
        refine q_no rfl rfl rfl rfl rfl hS ?_
        refine q_no rfl rfl rfl rfl rfl hS ?_
        refine q_no rfl rfl rfl rfl rfl hS ?_
        refine q_no rfl rfl rfl rfl rfl hS ?_
        refine q_no rfl rfl rfl rfl rfl hS ?_
        refine q_no rfl rfl rfl rfl rfl hS ?_
        refine q_no rfl rfl rfl rfl rfl hS ?_
        refine q_no rfl rfl rfl rfl rfl hS ?_
        refine q_val (fun w hS => e_pick_f rfl rfl) rfl hS ?_
        refine q_nil ?_
        refine p_val (e_assign (v := .bool _) rfl) rfl ?_
        exact p_nil (x_then ⟨_, rfl, _, _, upds_eq ⟨rfl, rfl, trivial⟩, by simp; unfold bright; first | exact ⟨fun h => ⟨by omega, by omega, by omega, by omega, h⟩, fun h => h.2.2.2.2⟩ | exact (fun h => by have := h.1; have := h.2.1; have := h.2.2.1; have := h.2.2.2.1; omega), S⟩)
    · rintro f w ⟨u, b3, rfl, hb3, S⟩
      refine x_then (s_seq ?_)
      refine s_cutK (ks := [some b1]) (ps := [Ex _ _]) [] trivial S (fun keep ks ps f' w' => ∃ u bb, f' = upds u ((2, .bool bb) :: keep) ∧ (bb = true ↔ True) ∧ St w0 w' [] ks ps) ?_ ?_
      · refine s_plain ?_
        refine p_val (e_loadW 0 rfl ag69 sz69 S rfl rfl (by first | with_reducible assumption | (rw [bv_length]; with_reducible assumption) | (rw [List.size_toArray, bv_length]; with_reducible assumption) | (simp [cat, Value.cells, blkC, hk.1, hk.2, length_mroot]; done) | (simp [cat, Value.cells, blkC, hk.1, hk.2, length_mroot]; omega) | rfl)) rfl ?_
        refine p_does (d_call Try.func51 nm51 rfl rfl (bb_right _ h hk L (hL.carry (S.carry0)) (by omega) hsm.2)) rfl ?_
        rintro _ w ⟨rfl, hB⟩
        have S := S.below hB
        rcases Classical.em (bright h L) with hg39 | hg39
        · rw [decide_eq_true hg39]
          refine p_val (e_move (v := .bool _) rfl) rfl ?_
          refine p_valb (e_eqlB rfl rfl Try.underlying4) rfl (fun hg41 => ?_) (fun hg41 => ?_)
          · refine p_val (e_move (v := .bool _) rfl) rfl ?_
            refine pg_does rfl rfl rfl rfl rfl (d_call Try.func49 nm49 rfl rfl (l19awake _)) ?_
            rintro _ w ⟨rfl, hB⟩
            have S := S.below hB
            refine p_val (e_pick_t rfl rfl) rfl ?_
            refine p_val (e_assign (v := .bool _) rfl) rfl ?_
            exact p_nil (x_then ⟨_, rfl, _, _, upds_eq ⟨rfl, trivial⟩, by first | (simp only [decide_eq_true_eq, eq_self, true_iff, iff_true, iff_false, Bool.false_eq_true, false_iff, ge_iff_le, gt_iff_lt, true_and, and_true, false_and, and_false, true_or, or_true, false_or, or_false, not_true_eq_false, not_false_eq_true]; omega) | (simp; done) | omega | (simp_all; done), S⟩)
          · refine p_val (e_move (v := .bool _) rfl) rfl ?_
            refine p_no rfl rfl rfl rfl rfl ?_
            refine p_val (e_pick_f rfl rfl) rfl ?_
            refine p_val (e_assign (v := .bool _) rfl) rfl ?_
            exact p_nil (x_then ⟨_, rfl, _, _, upds_eq ⟨rfl, trivial⟩, by first | (simp only [decide_eq_true_eq, eq_self, true_iff, iff_true, iff_false, Bool.false_eq_true, false_iff, ge_iff_le, gt_iff_lt, true_and, and_true, false_and, and_false, true_or, or_true, false_or, or_false, not_true_eq_false, not_false_eq_true]; omega) | (simp; done) | omega | (simp_all; done), S⟩)
        · rw [decide_eq_false hg39]
          refine p_val (e_move (v := .bool _) rfl) rfl ?_
          refine p_valb (e_eqlB rfl rfl Try.underlying4) rfl (fun hg41 => ?_) (fun hg41 => ?_)
          · refine p_val (e_move (v := .bool _) rfl) rfl ?_
            refine pg_does rfl rfl rfl rfl rfl (d_call Try.func49 nm49 rfl rfl (l19awake _)) ?_
            rintro _ w ⟨rfl, hB⟩
            have S := S.below hB
            refine p_val (e_pick_t rfl rfl) rfl ?_
            refine p_val (e_assign (v := .bool _) rfl) rfl ?_
            exact p_nil (x_then ⟨_, rfl, _, _, upds_eq ⟨rfl, trivial⟩, by first | (simp only [decide_eq_true_eq, eq_self, true_iff, iff_true, iff_false, Bool.false_eq_true, false_iff, ge_iff_le, gt_iff_lt, true_and, and_true, false_and, and_false, true_or, or_true, false_or, or_false, not_true_eq_false, not_false_eq_true]; omega) | (simp; done) | omega | (simp_all; done), S⟩)
          · refine p_val (e_move (v := .bool _) rfl) rfl ?_
            refine p_no rfl rfl rfl rfl rfl ?_
            refine p_val (e_pick_f rfl rfl) rfl ?_
            refine p_val (e_assign (v := .bool _) rfl) rfl ?_
            exact p_nil (x_then ⟨_, rfl, _, _, upds_eq ⟨rfl, trivial⟩, by first | (simp only [decide_eq_true_eq, eq_self, true_iff, iff_true, iff_false, Bool.false_eq_true, false_iff, ge_iff_le, gt_iff_lt, true_and, and_true, false_and, and_false, true_or, or_true, false_or, or_false, not_true_eq_false, not_false_eq_true]; omega) | (simp; done) | omega | (simp_all; done), S⟩)
      · rintro f w ⟨u, b2, rfl, hb2, S⟩
        refine x_then (s_ret ?_)
        exact post1 (v := .bool _) Try.results10 rfl (by rw [hb2.2 trivial]; exact ⟨rfl, S.to_below⟩)
theorem bpaths_calls (w0 : World) (h : HeadV) (hk : h.ok) (L : Sl TxV) (hL : TxsOk w0 [] L) (s : List Nat) (hs : s.length = 32) (a : Int) (A : Option Addr) (c : Nat) (P : List (List Nat)) (R : Rd w0 32 A P.length (sv P)) (hP : All32 P) (cR : P.length ≤ c) :
    Ret Try.prog 13 [.agg (cat (blkC h L.A L.n L.c)).toArray, .agg (bv s).toArray, .int .i64 a, .slice A P.length c] w0 fun v w' => v = .bool true ∧ Below w0.heap.size w0 w' := by
  refine enter Try.func13 rfl Try.ntmps13 (Nat.le_of_ble_eq_true rfl) ?_
  have S := St.init w0
  have k1 := hk.1
  have k2 := hk.2
  have hal := txsums_all L.xs
  have hln : (L.xs.map txsum).length = L.n := by rw [List.length_map]; exact hL.1
  have hpa := mpath_all (L.xs.map txsum) a
  have hpl := mpath_len (L.xs.map txsum) a
  refine s_seq (s_plain ?_)
  refine p_does (d_boxA S rfl) rfl ?_
  rintro _ w ⟨b4, rfl, S⟩
  refine p_does (d_boxA S rfl) rfl ?_
  rintro _ w ⟨b5, rfl, S⟩
  refine p_val (e_assign (v := .bool _) rfl) rfl ?_
  refine p_nil (x_then (s_seq (s_seq ?_)))
  refine s_cutK (ks := [some b5, some b4]) (ps := [Ex _ _, Ex _ _]) [(2, .int _ _), (3, .slice _ _ _), (4, .pointer _), (5, .pointer _)] ⟨rfl, rfl, rfl, rfl, trivial⟩ S (fun keep ks ps f' w' => ∃ u bb, f' = upds u ((22, .bool bb) :: keep) ∧ (bb = true ↔ (¬ TxsSm L ∨ 20 < (P.length : Int))) ∧ St w0 w' [] ks ps) ?_ ?_
  · refine s_plain ?_
    refine p_val (e_field rfl Try.underlying69 rfl sz67 (by decide)) rfl ?_
    refine p_val (e_loadF1 (i := 4) (off := 66) rfl ag67 S (j := 1) rfl rfl rfl (by first | with_reducible assumption | (rw [bv_length]; with_reducible assumption) | (rw [List.size_toArray, bv_length]; with_reducible assumption) | (simp [cat, Value.cells, blkC, headC, hk.1, hk.2, hs, length_mroot]; done) | (simp [cat, Value.cells, blkC, headC, hk.1, hk.2, hs, length_mroot]; omega) | rfl)) rfl ?_
    refine p_does (d_call Try.func48 nm48 rfl rfl (l19small _ L (hL.carry (S.carry0)))) rfl ?_
    rintro _ w ⟨rfl, hB⟩
    have S := S.below hB
    rcases Classical.em (TxsSm L) with hg16 | hg16
    · rw [decide_eq_true hg16]
      refine p_val (e_not rfl) rfl ?_
      refine p_val (e_move (v := .bool _) rfl) rfl ?_
      refine pg_val rfl rfl rfl rfl rfl (e_move (v := .slice _ _ _) rfl) ?_
      refine pg_val rfl rfl rfl rfl rfl (e_len rfl Try.underlying24) ?_
      refine pg_val rfl rfl rfl rfl rfl (e_gtr rfl rfl) ?_
      refine p_val (e_pick_f rfl rfl) rfl ?_
      exact p_nil (x_then ⟨_, rfl, _, _, upds_eq ⟨rfl, rfl, rfl, rfl, rfl, trivial⟩, by first | (simp only [decide_eq_true_eq, eq_self, true_iff, iff_true, iff_false, Bool.false_eq_true, false_iff, ge_iff_le, gt_iff_lt, true_and, and_true, false_and, and_false, true_or, or_true, false_or, or_false, not_true_eq_false, not_false_eq_true]; omega) | (simp; done) | omega | (simp_all; done), S⟩)
    · rw [decide_eq_false hg16]
      refine p_val (e_not rfl) rfl ?_
      refine p_val (e_move (v := .bool _) rfl) rfl ?_
      refine p_no rfl rfl rfl rfl rfl ?_
      refine p_no rfl rfl rfl rfl rfl ?_
      refine p_no rfl rfl rfl rfl rfl ?_
      refine p_val (e_pick_t rfl rfl) rfl ?_
      exact p_nil (x_then ⟨_, rfl, _, _, upds_eq ⟨rfl, rfl, rfl, rfl, rfl, trivial⟩, by first | (simp only [decide_eq_true_eq, eq_self, true_iff, iff_true, iff_false, Bool.false_eq_true, false_iff, ge_iff_le, gt_iff_lt, true_and, and_true, false_and, and_false, true_or, or_true, false_or, or_false, not_true_eq_false, not_false_eq_true]; omega) | (simp; done) | omega | (simp_all; done), S⟩)
  · rintro f w ⟨u, b22, rfl, hb22, S⟩
    refine x_then ?_
    refine s_condb rfl (fun hc22 => ?_) (fun hc22 => ?_)
    · have hp22 : (¬ TxsSm L ∨ 20 < (P.length : Int)) := hb22.1 hc22
      refine s_seq (s_plain ?_)
      refine p_does (d_call Try.func49 nm49 rfl rfl (l19awake _)) rfl ?_
      rintro _ w ⟨rfl, hB⟩
      have S := S.below hB
      refine p_val (e_assign (v := .bool _) rfl) rfl ?_
      refine p_nil (x_then (s_ret (x_then_ret ?_)))
      exact post1 (v := .bool _) Try.results13 rfl (⟨rfl, S.to_below⟩)
    · have hp22 : ¬ (¬ TxsSm L ∨ 20 < (P.length : Int)) := fun h => by rw [hb22.2 h] at hc22; cases hc22
      have hsm : TxsSm L := Classical.byContradiction fun h => hp22 (Or.inl h)
      have hs20 := hsm.1
      refine s_skip (x_then (s_seq (s_plain ?_)))
      refine p_val (e_loadW 1 rfl ag69 sz69 S rfl rfl (by first | with_reducible assumption | (rw [bv_length]; with_reducible assumption) | (rw [List.size_toArray, bv_length]; with_reducible assumption) | (simp [cat, Value.cells, blkC, headC, hk.1, hk.2, hs, length_mroot]; done) | (simp [cat, Value.cells, blkC, headC, hk.1, hk.2, hs, length_mroot]; omega) | rfl)) rfl ?_
      refine p_val (e_move (v := .int _ _) rfl) rfl ?_
      refine p_does (d_call Try.func55 nm55 rfl rfl (bb_path _ h hk L (hL.carry (S.carry0)) (by omega) hsm.2 a)) rfl ?_
      rintro _ w ⟨k27, c27, rfl, T⟩
      have S := S.merge T rfl
      refine p_val (e_move (v := .tuple _) rfl) rfl ?_
      refine p_val (e_extract rfl rfl) rfl ?_
      refine p_val (e_extract rfl rfl) rfl ?_
      refine p_val (e_assign (v := .slice _ _ _) rfl) rfl ?_
      refine p_val (e_assign (v := .bool _) rfl) rfl ?_
      refine p_nil (x_then (s_seq (s_plain ?_)))
      refine p_val (e_move (v := .int _ _) rfl) rfl ?_
      refine p_val (e_field rfl Try.underlying69 rfl sz67 (by decide)) rfl ?_
      refine p_val (e_loadF1 (i := 4) (off := 66) rfl ag67 S (j := 2) rfl rfl rfl (by first | with_reducible assumption | (rw [bv_length]; with_reducible assumption) | (rw [List.size_toArray, bv_length]; with_reducible assumption) | (simp [cat, Value.cells, blkC, headC, hk.1, hk.2, hs, length_mroot]; done) | (simp [cat, Value.cells, blkC, headC, hk.1, hk.2, hs, length_mroot]; omega) | rfl)) rfl ?_
      refine p_does (d_call Try.func50 nm50 rfl rfl (l19sums _ L (hL.carry (S.carry0)) (by omega) hsm.2)) rfl ?_
      rintro _ w ⟨k34, c34, rfl, T⟩
      have S := S.merge T rfl
      refine p_does (d_call Try.func41 nm41 rfl rfl (mk_path _ a _ _ (L.xs.map txsum) (S.rdRw 0 rfl rfl) hal (by omega))) rfl ?_
      rintro _ w ⟨k35, c35, rfl, T⟩
      have S := S.merge T rfl
      refine p_val (e_move (v := .tuple _) rfl) rfl ?_
      refine p_val (e_extract rfl rfl) rfl ?_
      refine p_val (e_extract rfl rfl) rfl ?_
      refine p_val (e_assign (v := .slice _ _ _) rfl) rfl ?_
      refine p_val (e_assign (v := .bool _) rfl) rfl ?_
      refine p_nil (x_then (s_seq (s_seq ?_)))
      refine s_cutK (ks := [k35, k34, k27, some b5, some b4]) (ps := [Rw _ _ _ _ _, Rw _ _ _ _ _, Rw _ _ _ _ _, Ex _ _, Ex _ _]) [(2, .int _ _), (3, .slice _ _ _), (4, .pointer _), (5, .pointer _), (9, .slice _ _ _), (11, .slice _ _ _)] ⟨rfl, rfl, rfl, rfl, rfl, rfl, trivial⟩ S (fun keep ks ps f' w' => ∃ u bb, f' = upds u ((47, .bool bb) :: keep) ∧ (bb = true ↔ False) ∧ St w0 w' [] ks ps) ?_ ?_
      · refine s_plain ?_
        refine p_val (e_move (v := .bool _) rfl) rfl ?_
        refine p_val (e_move (v := .bool _) rfl) rfl ?_
        refine p_valb (e_neqB rfl rfl Try.underlying4) rfl (fun hg40 => ?_) (fun hg40 => ?_)
        · exact False.elim (by rw [hln] at hg40; simp at hg40)
        · refine p_val (e_move (v := .bool _) rfl) rfl ?_
          refine pg_val rfl rfl rfl rfl rfl (e_move (v := .slice _ _ _) rfl) ?_
          refine pg_val rfl rfl rfl rfl rfl (e_len rfl Try.underlying24) ?_
          refine pg_val rfl rfl rfl rfl rfl (e_move (v := .slice _ _ _) rfl) ?_
          refine pg_val rfl rfl rfl rfl rfl (e_len rfl Try.underlying24) ?_
          refine pg_val rfl rfl rfl rfl rfl (e_neq rfl rfl) ?_
          refine p_val (e_pick_f rfl rfl) rfl ?_
          exact p_nil (x_then ⟨_, rfl, _, _, upds_eq ⟨rfl, rfl, rfl, rfl, rfl, rfl, rfl, trivial⟩, by simp [hln], S⟩)
      · rintro f w ⟨u, b47, rfl, hb47, S⟩
        refine x_then ?_
        refine s_condb rfl (fun hc47 => ?_) (fun hc47 => ?_)
        · exact False.elim ((fun (hp47 : False) => hp47) (hb47.1 hc47))
        · have hp47 : ¬ False := fun h => by rw [hb47.2 h] at hc47; cases hc47
          refine s_skip (x_then (s_seq (s_seq (s_plain ?_))))
          refine p_val (e_assign (v := .int _ _) rfl) rfl ?_
          refine p_nil (x_then (s_block ?_))
          refine s_loopK (α := Nat) (ks := [k35, k34, k27, some b5, some b4]) (ps := [Rw _ _ _ _ _, Rw _ _ _ _ _, Rw _ _ _ _ _, Ex _ _, Ex _ _]) [(2, .int _ _), (3, .slice _ _ _), (4, .pointer _), (5, .pointer _), (9, .slice _ _ _), (11, .slice _ _ _)] ⟨rfl, rfl, rfl, rfl, rfl, rfl, trivial⟩ S (fun keep ks ps g f' w' => ∃ u, f' = upds u ((13, .int .i64 (g : Int)) :: keep) ∧ (g ≤ (mpath (L.xs.map txsum) a).length) ∧ St w0 w' [] [k35, k34, k27, some b5, some b4] [(ps.getD 0 fun _ => True), (ps.getD 1 fun _ => True), (ps.getD 2 fun _ => True), (ps.getD 3 fun _ => True), (ps.getD 4 fun _ => True)]) (fun g => (mpath (L.xs.map txsum) a).length - g) (0) (⟨_, upds_eq ⟨rfl, rfl, rfl, rfl, rfl, rfl, rfl, trivial⟩, by first | omega | rfl | with_reducible assumption | (simp; done) | (simp; omega), S⟩) ?_
          rintro g f w ⟨u, rfl, hg, S⟩
          refine s_seq (s_seq (s_plain ?_))
          refine p_val (e_move (v := .int _ _) rfl) rfl ?_
          refine p_val (e_move (v := .slice _ _ _) rfl) rfl ?_
          refine p_val (e_len rfl Try.underlying24) rfl ?_
          refine p_val (e_lss rfl rfl) rfl ?_
          refine p_nil (x_then ?_)
          refine s_cond rfl (fun hc51 => ?_) (fun hc51 => ?_)
          · refine s_skip (x_then (s_seq (s_block (s_seq ?_))))
            have hg32 : ((mpath (L.xs.map txsum) a).getD (g : Int).toNat []).length = 32 := hpa.getD (by omega)
            refine s_drawK (ks := [k35, k34, k27, some b5, some b4]) (ps := [Rw _ _ _ _ _, Rw _ _ _ _ _, Rw _ _ _ _ _, Ex _ _, Ex _ _]) S [(true, 0), (true, 1), (true, 2), (true, 3), (true, 4), (true, 5), (true, 6), (true, 7), (true, 8)] [] [] mixed (by kernel_rfl) (by repeat (first | exact Calm.post _ _ _ | refine Calm.then ?_ _ | refine Calm.inB ?_ _)) (fun hS => ?_)
            have S := S.drew
            refine q_val (fun w hS => e_move (v := .slice _ _ _) rfl) rfl hS ?_
            refine q_val (fun w hS => e_move (v := .int _ _) rfl) rfl hS ?_
            refine q_val (fun w hS => e_ixR (hS.rdRw 2 rfl rfl) (by decide) rfl rfl Try.underlying24 sz29 (by omega)) rfl hS ?_
            refine q_val (fun w hS => e_loadRA rfl ag29 sz29 (by decide) (Rd.sumA (hS.rdRw 2 rfl rfl) (by with_reducible assumption) (by omega))) rfl hS ?_
            refine q_val (fun w hS => e_move (v := .slice _ _ _) rfl) rfl hS ?_
            refine q_val (fun w hS => e_move (v := .int _ _) rfl) rfl hS ?_
            refine q_val (fun w hS => e_ixR (hS.rdRw 0 rfl rfl) (by decide) rfl rfl Try.underlying24 sz29 (by omega)) rfl hS ?_
            refine q_val (fun w hS => e_loadRA rfl ag29 sz29 (by decide) (Rd.sumA (hS.rdRw 0 rfl rfl) (by with_reducible assumption) (by omega))) rfl hS ?_
            refine q_val (fun w hS => EqT.sumN eq29 gd29 rfl rfl (by first | with_reducible assumption | (rw [bv_length]; with_reducible assumption) | (rw [List.size_toArray, bv_length]; with_reducible assumption) | (simp [cat, Value.cells, blkC, headC, hk.1, hk.2, hs, length_mroot]; done) | (simp [cat, Value.cells, blkC, headC, hk.1, hk.2, hs, length_mroot]; omega) | rfl) (by first | with_reducible assumption | (rw [bv_length]; with_reducible assumption) | (rw [List.size_toArray, bv_length]; with_reducible assumption) | (simp [cat, Value.cells, blkC, headC, hk.1, hk.2, hs, length_mroot]; done) | (simp [cat, Value.cells, blkC, headC, hk.1, hk.2, hs, length_mroot]; omega) | rfl)) rfl hS ?_
            refine q_nil (p_nil (x_then ?_))
            refine s_cond rfl (fun hc62 => ?_) (fun hc62 => ?_)
            · exact False.elim (hc62 rfl)
            · refine s_skip (x_in (x_then (s_plain ?_)))
              refine p_val (e_move (v := .int _ _) rfl) rfl ?_
              refine p_val (e_add64 rfl rfl (by omega)) rfl ?_
              refine p_val (e_assign (v := .int _ _) rfl) rfl ?_
              refine p_nil ?_
              refine x_round (g + 1) _ rfl ⟨_, upds_eq ⟨rfl, rfl, rfl, rfl, rfl, rfl, rfl, trivial⟩, by first | omega | rfl | with_reducible assumption | (simp; done) | (simp; omega), S⟩ (by omega)
          · refine s_exit (x_then_exit (x_then_exit (x_in_same (x_then (s_seq ?_)))))
            refine s_cutK (ks := [k35, k34, k27, some b5, some b4]) (ps := [Rw _ _ _ _ _, Rw _ _ _ _ _, Rw _ _ _ _ _, Ex _ _, Ex _ _]) [] trivial S (fun keep ks ps f' w' => ∃ u bb, f' = upds u ((8, .bool bb) :: keep) ∧ (bb = true ↔ True) ∧ St w0 w' [] ks ps) ?_ ?_
            · refine s_drawK (ks := [k35, k34, k27, some b5, some b4]) (ps := [Rw _ _ _ _ _, Rw _ _ _ _ _, Rw _ _ _ _ _, Ex _ _, Ex _ _]) S [(true, 0), (true, 1), (true, 2), (true, 3), (true, 4), (true, 6), (true, 7), (true, 8), (true, 9), (true, 10), (true, 11), (true, 12), (true, 13), (true, 14), (false, 5), (false, 15), (true, 16), (true, 17), (false, 18), (true, 19)] [20] [20] mixed (by kernel_rfl) (by repeat (first | exact Calm.post _ _ _ | refine Calm.then ?_ _ | refine Calm.inB ?_ _)) (fun hS => ?_)
              have S := S.drew
              refine q_val (fun w hS => e_field rfl Try.underlying69 rfl sz66 (by decide)) rfl hS ?_
              refine q_val (fun w hS => e_loadFS (i := 0) (n := 4) (off := 0) rfl ag66 sz66 (by decide) hS (j := 4) rfl rfl (by first | with_reducible assumption | (rw [bv_length]; with_reducible assumption) | (rw [List.size_toArray, bv_length]; with_reducible assumption) | (simp [cat, Value.cells, blkC, headC, hk.1, hk.2, hs, length_mroot]; done) | (simp [cat, Value.cells, blkC, headC, hk.1, hk.2, hs, length_mroot]; omega) | rfl) (by first | with_reducible assumption | (rw [bv_length]; with_reducible assumption) | (rw [List.size_toArray, bv_length]; with_reducible assumption) | (simp [cat, Value.cells, blkC, headC, hk.1, hk.2, hs, length_mroot]; done) | (simp [cat, Value.cells, blkC, headC, hk.1, hk.2, hs, length_mroot]; omega) | rfl)) rfl hS ?_
              refine q_val (fun w hS => e_loadW 3 rfl ag29 sz29 hS rfl rfl (by first | with_reducible assumption | (rw [bv_length]; with_reducible assumption) | (rw [List.size_toArray, bv_length]; with_reducible assumption) | (simp [cat, Value.cells, blkC, headC, hk.1, hk.2, hs, length_mroot]; done) | (simp [cat, Value.cells, blkC, headC, hk.1, hk.2, hs, length_mroot]; omega) | rfl)) rfl hS ?_
              refine q_val (fun w hS => e_move (v := .int _ _) rfl) rfl hS ?_
              refine q_val (fun w hS => e_move (v := .slice _ _ _) rfl) rfl hS ?_
              refine q_val (fun w hS => e_field rfl Try.underlying69 rfl sz66 (by decide)) rfl hS ?_
              refine q_val (fun w hS => e_field rfl Try.underlying66 rfl sz29 (by decide)) rfl hS ?_
              refine q_val (fun w hS => e_loadFA (i := 2) (off := 33) rfl ag29 sz29 (by decide) hS (j := 4) rfl rfl rfl (by first | with_reducible assumption | (rw [bv_length]; with_reducible assumption) | (rw [List.size_toArray, bv_length]; with_reducible assumption) | (simp [cat, Value.cells, blkC, headC, hk.1, hk.2, hs, length_mroot]; done) | (simp [cat, Value.cells, blkC, headC, hk.1, hk.2, hs, length_mroot]; omega) | rfl) (by first | with_reducible assumption | (rw [bv_length]; with_reducible assumption) | (rw [List.size_toArray, bv_length]; with_reducible assumption) | (simp [cat, Value.cells, blkC, headC, hk.1, hk.2, hs, length_mroot]; done) | (simp [cat, Value.cells, blkC, headC, hk.1, hk.2, hs, length_mroot]; omega) | rfl)) rfl hS ?_
              refine q_val (fun w hS => e_loadW 3 rfl ag29 sz29 hS rfl rfl (by first | with_reducible assumption | (rw [bv_length]; with_reducible assumption) | (rw [List.size_toArray, bv_length]; with_reducible assumption) | (simp [cat, Value.cells, blkC, headC, hk.1, hk.2, hs, length_mroot]; done) | (simp [cat, Value.cells, blkC, headC, hk.1, hk.2, hs, length_mroot]; omega) | rfl)) rfl hS ?_
              refine q_val (fun w hS => e_move (v := .int _ _) rfl) rfl hS ?_
              refine q_val (fun w hS => e_field rfl Try.underlying69 rfl sz66 (by decide)) rfl hS ?_
              refine q_val (fun w hS => e_field rfl Try.underlying66 rfl sz3 (by decide)) rfl hS ?_
              refine q_val (fun w hS => e_loadF1 (i := 3) (off := 65) rfl ag3 hS (j := 4) rfl rfl rfl (by first | with_reducible assumption | (rw [bv_length]; with_reducible assumption) | (rw [List.size_toArray, bv_length]; with_reducible assumption) | (simp [cat, Value.cells, blkC, headC, hk.1, hk.2, hs, length_mroot]; done) | (simp [cat, Value.cells, blkC, headC, hk.1, hk.2, hs, length_mroot]; omega) | rfl)) rfl hS ?_
              refine q_val (fun w hS => e_move (v := .slice _ _ _) rfl) rfl hS ?_
              refine q_does (d_call Try.func56 nm56 rfl rfl (bh_has _ h hk s a _ _ P hs (S.rdOld R rfl) hP cR)) rfl ?_
              rintro _ w ⟨rfl, hB⟩
              have S := S.below hB
              have hS := S.pk [0, 1, 2, 3, 4] rfl
              refine ⟨hS, ?_⟩
              refine q_does (d_call Try.func38 nm38 rfl rfl (mk_check _ h.root s a h.many _ _ P hk.2 hs (S.rdOld R rfl) hP cR)) rfl ?_
              rintro _ w ⟨rfl, hB⟩
              have S := S.below hB
              have hS := S.pk [0, 1, 2, 3, 4] rfl
              refine ⟨hS, ?_⟩
              refine q_valb (fun w hS => e_eqlB rfl rfl Try.underlying4) rfl hS (fun hg79 => ?_) (fun hg79 => ?_)
              · refine q_val (fun w hS => e_move (v := .bool _) rfl) rfl hS ?_
                refine qg_does rfl rfl rfl rfl rfl (d_call Try.func49 nm49 rfl rfl (l19awake _)) ?_
                rintro _ w ⟨rfl, hB⟩
                have S := S.below hB
                have hS := S.pk [0, 1, 2, 3, 4] rfl
                refine ⟨hS, ?_⟩
                refine q_val (fun w hS => e_pick_t rfl rfl) rfl hS ?_
                refine q_nil ?_
                refine p_val (e_assign (v := .bool _) rfl) rfl ?_
                exact p_nil (x_then ⟨_, rfl, _, _, upds_eq ⟨rfl, trivial⟩, by first | (simp only [decide_eq_true_eq, eq_self, true_iff, iff_true, iff_false, Bool.false_eq_true, false_iff, ge_iff_le, gt_iff_lt, true_and, and_true, false_and, and_false, true_or, or_true, false_or, or_false, not_true_eq_false, not_false_eq_true]; omega) | (simp; done) | omega | (simp_all; done), S⟩)
              · refine q_val (fun w hS => e_move (v := .bool _) rfl) rfl hS ?_
                refine q_no rfl rfl rfl rfl rfl hS ?_
                refine q_val (fun w hS => e_pick_f rfl rfl) rfl hS ?_
                refine q_nil ?_
                refine p_val (e_assign (v := .bool _) rfl) rfl ?_
                exact p_nil (x_then ⟨_, rfl, _, _, upds_eq ⟨rfl, trivial⟩, by first | (simp only [decide_eq_true_eq, eq_self, true_iff, iff_true, iff_false, Bool.false_eq_true, false_iff, ge_iff_le, gt_iff_lt, true_and, and_true, false_and, and_false, true_or, or_true, false_or, or_false, not_true_eq_false, not_false_eq_true]; omega) | (simp; done) | omega | (simp_all; done), S⟩)
            · rintro f w ⟨u, b8, rfl, hb8, S⟩
              refine x_then (s_ret ?_)
              exact post1 (v := .bool _) Try.results13 rfl (by rw [hb8.2 trivial]; exact ⟨rfl, S.to_below⟩)
theorem bpaths_n (w0 : World) (h : HeadV) (hk : h.ok) (L : Sl TxV) (hL : TxsOk w0 [] L) (s : List Nat) (hs : s.length = 32) (a : Int) (A : Option Addr) (n c : Nat) (P : List (List Nat)) (hn : P.length = n) (R : Rd w0 32 A n (sv P)) (hP : All32 P) (cR : n ≤ c) :
     Ret Try.prog 13 [.agg (cat (blkC h L.A L.n L.c)).toArray, .agg (bv s).toArray, .int .i64 a, .slice A n c] w0 fun v w' => v = .bool true ∧ Below w0.heap.size w0 w' := by
  subst hn
  exact bpaths_calls w0 h hk L hL s hs a A c P R hP cR
end Go.Proofs.Ytdhfiamgmokfbaa

/- What a path leads to, and that no path of another length leads anywhere. It proves no statement by itself. -/
set_option linter.unusedSimpArgs false
set_option linter.unusedVariables false
namespace Go.Proofs.Ytdhfiamgmokfbaa
open Go Go.RowKit E
theorem sidx_add2 (b : Nat) : sidx (b + 2) = sidx b + 2 := by
  unfold sidx
  split <;> split <;> omega
theorem upL_getD : ∀ (l : List (List Nat)) (b : Nat), b < l.length → (upL l).getD (b / 2) [] = if sidx b < l.length then (if b % 2 = 0 then mpair (l.getD b []) (l.getD (sidx b) []) else mpair (l.getD (sidx b) []) (l.getD b [])) else l.getD b []
  | [], b, h => by simp at h
  | [x], b, h => by
    obtain rfl : b = 0 := by simpa using h
    simp [upL, sidx]
  | x :: y :: l, 0, h => by simp [upL, sidx]
  | x :: y :: l, 1, h => by simp [upL, sidx]
  | x :: y :: l, b + 2, h => by
    have ih := upL_getD l b (by simp only [List.length_cons] at h; omega)
    rw [sidx_add2, show (b + 2) / 2 = b / 2 + 1 by omega, show (b + 2) % 2 = b % 2 by omega, upL, List.getD_cons_succ, ih]
    simp only [List.getD_cons_succ, List.length_cons, Nat.add_assoc, Nat.reduceAdd, Nat.add_lt_add_iff_right]
theorem climb_path : ∀ (m : Nat) (l : List (List Nat)) (b : Nat), l.length = m → b < l.length → climbC (l.getD b []) b l.length (pathI l b) = some (rootI l) := by
  intro m
  induction m using Nat.strongRecOn with
  | _ m ih =>
    intro l b hm hb
    by_cases h1 : l.length ≤ 1
    · have hb0 : b = 0 := by omega
      rw [pathI_one h1, climbC_end h1, rootI_head (by omega), hb0]
    · have e := upL_getD l b hb
      have hu := upL_length l
      have hi := ih (upL l).length (by omega) (upL l) (b / 2) rfl (by omega)
      rw [pathI_up h1, rootI_up h1]
      unfold sib
      by_cases hs : sidx b < l.length
      · rw [if_pos hs] at e
        rw [if_pos hs]
        show climbC _ b l.length (l.getD (sidx b) [] :: pathI (upL l) (b / 2)) = _
        rw [climbC_cons h1 hs, ← e, ← hu]
        exact hi
      · rw [if_neg hs] at e
        rw [if_neg hs, List.nil_append, climbC_no h1 hs, ← e, ← hu]
        exact hi
theorem climb_len : ∀ (m n b : Nat) (now now' : List Nat) (Q Q' : List (List Nat)) (x x' : List Nat), n = m → climbC now b n Q = some x → climbC now' b n Q' = some x' → Q.length = Q'.length := by
  intro m
  induction m using Nat.strongRecOn with
  | _ m ih =>
    intro n b now now' Q Q' x x' hm h h'
    by_cases h1 : n ≤ 1
    · rw [climbC_end h1] at h h'
      cases Q with
      | nil => cases Q' with
        | nil => rfl
        | cons _ _ => cases h'
      | cons _ _ => cases h
    · by_cases hs : sidx b < n
      · cases Q with
        | nil => rw [climbC_nil h1 hs] at h; cases h
        | cons q Q => cases Q' with
          | nil => rw [climbC_nil h1 hs] at h'; cases h'
          | cons q' Q' =>
            rw [climbC_cons h1 hs] at h h'
            have := ih ((n + 1) / 2) (by omega) _ _ _ _ _ _ _ _ rfl h h'
            simp only [List.length_cons, this]
      · rw [climbC_no h1 hs] at h h'
        exact ih ((n + 1) / 2) (by omega) _ _ _ _ _ _ _ _ rfl h h'
theorem mcheck_path {M : List (List Nat)} {i : Nat} (hi : i < M.length) (hn : M.length ≤ 4096) : mcheck (mroot M) (M.getD i []) (i : Int) (M.length : Int) (mpath M (i : Int)) := by
  refine ⟨by omega, by omega, by omega, ?_⟩
  have h := climb_path _ (M.map mleaf) i rfl (by simpa using hi)
  have e : (M.map mleaf).getD i [] = mleaf (M.getD i []) := by
    rw [List.getD_eq_getElem?_getD, List.getD_eq_getElem?_getD, List.getElem?_map, List.getElem?_eq_getElem hi]; rfl
  rw [e, List.length_map] at h
  rw [Int.toNat_natCast, Int.toNat_natCast]
  unfold mpath mroot
  rw [if_pos (by omega), if_neg (by omega), Int.toNat_natCast]
  exact h
theorem mcheck_no {M : List (List Nat)} {i : Nat} (hi : i < M.length) (hn : M.length ≤ 4096) {Q : List (List Nat)} (hq : ¬ Q.length = (mpath M (i : Int)).length) (r : List Nat) : ¬ mcheck r (M.getD i []) (i : Int) (M.length : Int) Q := fun h =>
  hq (climb_len _ _ _ _ _ _ _ _ _ rfl h.2.2.2 (mcheck_path hi hn).2.2.2)
theorem mk_check_n (w0 : World) (r s : List Nat) (a m : Int) (A : Option Addr) (n c : Nat) (P : List (List Nat)) (hn : P.length = n) (hr : r.length = 32) (hs : s.length = 32) (R : Rd w0 32 A n (sv P)) (hP0 : All32 P) (cR : n ≤ c) :
     Ret Try.prog 38 [.agg (bv r).toArray, .agg (bv s).toArray, .int .i64 a, .int .i64 m, .slice A n c] w0 fun v w' => v = .bool (decide (mcheck r s a m P)) ∧ Below w0.heap.size w0 w' := by
  subst hn; exact mk_check w0 r s a m A c P hr hs R hP0 cR
end Go.Proofs.Ytdhfiamgmokfbaa
