/- Law 13: SecretShelves, walked. It proves no statement by itself. -/
import Derived.Test.YtdhfiamgmokfbaaSec3
set_option linter.unusedSimpArgs false
set_option linter.unusedVariables false
set_option maxRecDepth 100000
set_option maxHeartbeats 2000000
namespace Go.Proofs.Ytdhfiamgmokfbaa
open Go Go.RowKit E
structure OpD where
  (x h : List Nat)
  own : Bool
def opc (o : OpD) : List Value := bv o.x ++ bv o.h ++ [.bool o.own]
def OpD.ok (o : OpD) : Prop := o.x.length = 32 ∧ o.h.length = 32
theorem opc_len {o : OpD} (h : o.ok) : (opc o).length = 65 := by simp [opc, h.1, h.2]
section
variable {w0 w : World} {ex : List Nat} {ks : List (Option Nat)} {ps : List (Option Obj → Prop)}
theorem E.St.opX (S : St w0 w ex ks ps) (i : Nat) {b : Nat} {o : OpD} {t : TypeId} (hk : ks[i]? = some (some b)) (hp : ps[i]? = some (Ex (opc o).toArray t)) (h : o.ok) : Rd w 1 (some ((⟨b, 0, none⟩ : Addr).add 0)) 32 (bv o.x) :=
  S.rdChunk i hk hp 0 (ys := []) (zs := bv o.h ++ [.bool o.own]) (by simp [opc]) rfl (by simp [h.1])
theorem E.St.opH (S : St w0 w ex ks ps) (i : Nat) {b : Nat} {o : OpD} {t : TypeId} (hk : ks[i]? = some (some b)) (hp : ps[i]? = some (Ex (opc o).toArray t)) (h : o.ok) : Rd w 1 (some ((⟨b, 0, none⟩ : Addr).add 32)) 32 (bv o.h) :=
  S.rdChunk i hk hp 32 (ys := bv o.x) (zs := [.bool o.own]) (by simp [opc]) (by simp [h.1]) (by simp [h.2])
theorem E.St.opO (S : St w0 w ex ks ps) (i : Nat) {b : Nat} {o : OpD} {t : TypeId} (hk : ks[i]? = some (some b)) (hp : ps[i]? = some (Ex (opc o).toArray t)) (h : o.ok) : w.cell? ((⟨b, 0, none⟩ : Addr).add 64) = some (.bool o.own) :=
  (S.cell i hk hp 64).trans (by rw [List.getElem?_toArray, opc, List.getElem?_append_right (by simp [h.1, h.2])]; simp [h.1, h.2])
end
theorem get_in (w0 : World) (hb : Nat) (A : Option Addr) (c : Nat) (L : List (List Nat)) (s : Int) (T : TypeId) (fr : Nat × Nat) (hL : All32 L) (R : Rd w0 32 A L.length (sv L)) (hh : w0.heap[hb]? = some (.cells #[.slice A L.length c] T fr)) (h : 0 ≤ s ∧ s < L.length) :
    Ret Try.prog 23 [.pointer (some ⟨hb, 0, none⟩), .int .i64 s] w0 fun v w' => v = .tuple #[.agg (bv (L.getD s.toNat [])).toArray, .bool true] ∧ Below w0.heap.size w0 w' :=
  (get_calls w0 hb A c L s T fr hL R hh).mono fun v w' ⟨hv, hB⟩ => ⟨by rw [hv, if_pos h, decide_eq_true h], hB⟩
abbrev SJ (w0 w' : World) (A : Option Addr) (n c : Nat) (a1 s1 : Int) (b1 b2 g m : Nat) (f' : Nat → Value) : Prop :=
  ∃ u k1 c1 k2 c2 Ac nc cc L, f' = upds u [(0, .slice A n c), (1, .int .i64 a1), (2, .int .i64 s1), (7, .pointer (some ⟨b1, 0, none⟩)), (8, .slice (at_ k2) (List.length L) c2), (9, .pointer (some ⟨b2, 0, none⟩)), (10, .int .i64 ((nc : Nat) : Int)), (11, .int .i64 (g : Int))] ∧ List.length L ≤ m ∧ All32 L ∧
    St w0 w' [] [some b1, k1, k2, some b2] [Ex #[.slice (at_ k1) L.length c1] 26, Rw 29 32 L.length c1 (sv L), Rw 29 32 L.length c2 (sv L), Ex #[.slice Ac nc cc] 26]
theorem shelves_calls (w0 : World) (A : Option Addr) (c : Nat) (ops : List OpD) (hops : ∀ o ∈ ops, o.ok) (R : Rd w0 65 A ops.length (ops.flatMap opc)) (a1 s1 : Int) :
    Ret Try.prog 3 [.slice A ops.length c, .int .i64 a1, .int .i64 s1] w0 fun v w' => v = .bool true ∧ Below w0.heap.size w0 w' := by
  have hop : ∀ o ∈ ops, (opc o).length = 65 := fun o ho => opc_len (hops o ho)
  refine enter Try.func3 rfl Try.ntmps3 (Nat.le_of_ble_eq_true rfl) ?_
  have S := St.init w0
  refine s_seq (s_plain ?_)
  refine p_val (e_assign (v := .bool _) rfl) rfl ?_
  refine p_nil (x_then (s_seq (s_plain ?_)))
  refine p_val (e_build (cs := zl26) (by kernel_rfl)) rfl ?_
  refine p_does (d_boxA S rfl) rfl ?_
  rintro _ w ⟨b1, rfl, S⟩
  refine p_val (e_assign (v := .pointer _) rfl) rfl ?_
  refine p_nil (x_then (s_seq (s_plain ?_)))
  refine p_val (e_assign (v := .slice _ _ _) rfl) rfl ?_
  refine p_nil (x_then (s_seq (s_plain ?_)))
  refine p_val (e_build (cs := zl26) (by kernel_rfl)) rfl ?_
  refine p_does (d_allocA S zv26) rfl ?_
  rintro _ w ⟨b2, rfl, S⟩
  refine p_does (d_storeW S 0 rfl rfl (by intro v hv; rw [List.mem_singleton.1 hv]; rfl) sz26 (by rfl) rfl rfl (by rfl)) rfl ?_
  intro _ w S
  refine p_val (e_assign (v := .int _ _) rfl) rfl ?_
  refine p_nil (x_then (s_seq (s_seq (s_plain ?_))))
  refine p_val (e_assign (v := .int _ _) rfl) rfl ?_
  refine p_nil (x_then (s_block ?_))
  refine s_loop (α := Nat) (fun g f' w' => g ≤ 40 ∧ SJ w0 w' A ops.length c a1 s1 b1 b2 g g f') (fun g => 40 - g) (0) (⟨by omega, _, none, 0, none, 0, none, 0, 0, [], upds_eq ⟨rfl, rfl, rfl, rfl, rfl, rfl, rfl, rfl, trivial⟩, by simp, by simp [All32], ((S.addNil 29 32).addNil 29 32).pk [3, 0, 1, 2] rfl⟩) ?_
  rintro g f w ⟨hg, u, k1, c1, k2, c2, Ac, nc, cc, L, rfl, hlen, hL, S⟩
  refine s_seq (s_seq ?_)
  refine s_cut (fun f f' w' => ∃ (j25 j26 j27 j28 j29 j30 j31 : Value) (b : Bool), f' = updo (updo (updo (updo (updo (updo (updo (updo f (some 25) j25) (some 26) j26) (some 27) j27) (some 28) j28) (some 29) j29) (some 30) j30) (some 31) j31) (some 32) (.bool b) ∧ (b = true ↔ (g : Int) < (ops.length : Int) ∧ (g : Int) < 40) ∧ St w0 w' [] [some b1, k1, k2, some b2] [Ex #[.slice (at_ k1) L.length c1] 26, Rw 29 32 L.length c1 (sv L), Rw 29 32 L.length c2 (sv L), Ex #[.slice Ac nc cc] 26]) ?_ ?_
  · refine s_plain ?_
    refine p_val (e_move (v := .int _ _) rfl) rfl ?_
    refine p_val (e_move (v := .slice _ _ _) rfl) rfl ?_
    refine p_val (e_len rfl Try.underlying22) rfl ?_
    refine p_valB (e_lss rfl rfl) rfl (fun hg2 => ?_) (fun hg2 => ?_)
    · refine p_val (e_move (v := .bool _) rfl) rfl ?_
      refine pg_val rfl rfl rfl rfl rfl (e_move (v := .int _ _) rfl) ?_
      refine pg_val rfl rfl rfl rfl rfl (e_lss rfl rfl) ?_
      refine p_val (e_pick_t rfl rfl) rfl ?_
      exact p_nil (x_then ⟨_, rfl, _, _, _, _, _, _, _, _, rfl, by first | (simp only [decide_eq_true_eq, eq_self, true_iff, iff_true, iff_false, Bool.false_eq_true, false_iff, ge_iff_le, gt_iff_lt]; omega) | simp | omega, S⟩)
    · refine p_val (e_move (v := .bool _) rfl) rfl ?_
      refine p_no rfl rfl rfl rfl rfl ?_
      refine p_no rfl rfl rfl rfl rfl ?_
      refine p_val (e_pick_f rfl rfl) rfl ?_
      exact p_nil (x_then ⟨_, rfl, _, _, _, _, _, _, _, _, rfl, by first | (simp only [decide_eq_true_eq, eq_self, true_iff, iff_true, iff_false, Bool.false_eq_true, false_iff, ge_iff_le, gt_iff_lt]; omega) | simp | omega, S⟩)
  · rintro _ w ⟨j25, j26, j27, j28, j29, j30, j31, b901, rfl, hb1, S⟩
    refine x_then ?_
    refine s_condb rfl (fun hc1 => ?_) (fun hc1 => ?_)
    · refine s_skip (x_then (s_seq ?_))
      refine s_cut (fun f f' w' => SJ w0 w' A ops.length c a1 s1 b1 b2 g (g + 1) f') ?_ ?_
      · refine s_block (s_seq ?_)
        refine s_cut (fun f f' w' => SJ w0 w' A ops.length c a1 s1 b1 b2 g g f') ?_ ?_
        · refine s_seq (s_plain ?_)
          refine p_val (e_move (v := .int _ _) rfl) rfl ?_
          refine p_val (e_move (v := .int _ _) rfl) rfl ?_
          refine p_val (e_eql rfl rfl) rfl ?_
          refine p_nil (x_then ?_)
          refine s_cond rfl (fun hc2 => ?_) (fun hc2 => ?_)
          · refine s_seq (s_plain ?_)
            refine p_val (e_move (v := .pointer _) rfl) rfl ?_
            refine p_does (d_call Try.func18 nm18 rfl rfl (clone_calls _ b1 (at_ k1) L.length c1 L _ _ (by omega) (S.rdRw 1 rfl rfl) (S.exact_ 0 rfl rfl))) rfl ?_
            rintro _ w ⟨⟨Ac', cc', rfl⟩, hB⟩
            have S := S.below hB
            refine p_does (d_storeW S 3 rfl rfl (by simp [Value.oneCell']) sz26 (by rfl) rfl rfl (by rfl)) rfl ?_
            intro _ w S
            refine p_nil (x_then (s_plain ?_))
            refine p_val (e_move (v := .slice _ _ _) rfl) rfl ?_
            refine p_val (e_len rfl Try.underlying24) rfl ?_
            refine p_val (e_assign (v := .int _ _) rfl) rfl ?_
            refine p_nil ?_
            exact x_then ⟨_, rfl, _, k1, c1, k2, c2, Ac', L.length, cc', L, upds_eq ⟨rfl, rfl, rfl, rfl, rfl, rfl, rfl, rfl, trivial⟩, hlen, hL, S⟩
          · refine s_skip ?_
            exact x_then ⟨_, rfl, _, k1, c1, k2, c2, Ac, nc, cc, L, upds_eq ⟨rfl, rfl, rfl, rfl, rfl, rfl, rfl, rfl, trivial⟩, hlen, hL, S⟩
        · rintro _ w ⟨u, k1, c1, k2, c2, Ac, nc, cc, L, rfl, hlen, hL, S⟩
          refine x_then (s_seq (s_plain ?_))
          refine p_val (e_move (v := .slice _ _ _) rfl) rfl ?_
          refine p_val (e_move (v := .int _ _) rfl) rfl ?_
          have h0 := hb1.1 hc1
          obtain ⟨ad, rfl⟩ := R.some_ (by rw [flatMap_len hop]; omega)
          obtain ⟨o, ho⟩ : ∃ o, ops[g]? = some o := ⟨_, List.getElem?_eq_getElem (by omega)⟩
          have hok := hops o (List.mem_of_getElem? ho)
          refine p_val (e_ix_sl rfl rfl Try.underlying22 sz31 (by omega)) rfl ?_
          refine p_val (e_loadN (cs := opc o) rfl ag31 sz31 (opc_len hok) ((S.rdOld R rfl).elem hop ho).loads) rfl ?_
          refine p_does (d_allocA S zv31) rfl ?_
          rintro _ w ⟨b11, rfl, S⟩
          refine p_does (d_storeW S 0 rfl rfl (by intro v hv; simp only [opc, List.mem_append, List.mem_singleton] at hv; rcases hv with (h | h) | h; exact bv_one _ _ h; exact bv_one _ _ h; subst h; rfl) sz31 (by exact opc_len hok) rfl rfl (by rfl)) rfl ?_
          intro _ w S
          refine p_nil (x_then (s_seq (s_plain ?_)))
          refine p_val (e_field rfl Try.underlying31 rfl sz29 (by decide)) rfl ?_
          refine p_val (e_sl_arr rfl Try.underlying29 sz5) rfl ?_
          refine p_does (d_lit1 S Try.underlying90 sz33 zv33 rfl (vs := [.slice _ _ _]) rfl rfl rfl (by decide)) rfl ?_
          rintro _ w ⟨b12, rfl, S⟩
          refine p_does (d_call Try.func19 nm19 rfl rfl (join_calls _ 31 _ _ [o.x] (Parts.one (S.rdRw 0 rfl rfl) (S.opX 1 rfl rfl hok)) (by simp [joinB, len4, hok.1]) (by simp))) rfl ?_
          rintro _ w ⟨rfl, hB⟩
          have S := S.below hB
          refine p_does (d_allocA S zv29) rfl ?_
          rintro _ w ⟨b13, rfl, S⟩
          refine p_does (d_storeW S 0 rfl rfl (bv_one _) sz29 (by simp [length_join]) rfl rfl (by rfl)) rfl ?_
          intro _ w S
          refine p_nil (x_then (s_seq (s_plain ?_)))
          refine p_val (e_field rfl Try.underlying31 rfl sz29 (by decide)) rfl ?_
          refine p_val (e_loadN (cs := bv o.h) rfl ag29 sz29 (by simp [hok.2]) (S.opH 2 rfl rfl hok).loads) rfl ?_
          refine p_does (d_allocA S zv29) rfl ?_
          rintro _ w ⟨b14, rfl, S⟩
          refine p_does (d_storeW S 0 rfl rfl (bv_one _) sz29 (by simp [hok.2]) rfl rfl (by rfl)) rfl ?_
          intro _ w S
          refine p_nil (x_then (s_seq ?_))
          refine s_cut (fun f f' w' => ∃ u hl, f' = upds u [(0, .slice (some ad) ops.length c), (1, .int .i64 a1), (2, .int .i64 s1), (7, .pointer (some ⟨b1, 0, none⟩)), (8, .slice (at_ k2) L.length c2), (9, .pointer (some ⟨b2, 0, none⟩)), (10, .int .i64 (nc : Int)), (11, .int .i64 (g : Int)), (12, .pointer (some ⟨b11, 0, none⟩)), (13, .pointer (some ⟨b13, 0, none⟩)), (14, .pointer (some ⟨b14, 0, none⟩))] ∧ hl.length = 32 ∧ St w0 w' [] [some b14, some b13, some b11, some b1, k1, k2, some b2] [Ex (bv hl).toArray 29, Ex (bv (join 31 [o.x])).toArray 29, Ex (opc o).toArray 31, Ex #[.slice (at_ k1) L.length c1] 26, Rw 29 32 L.length c1 (sv L), Rw 29 32 L.length c2 (sv L), Ex #[.slice Ac nc cc] 26]) ?_ ?_
          · refine s_seq (s_plain ?_)
            refine p_val (e_field rfl Try.underlying31 rfl sz4 (by decide)) rfl ?_
            refine p_val (e_load rfl ag4 (S.opO 3 rfl rfl hok)) rfl ?_
            refine p_nil (x_then ?_)
            refine s_condb rfl (fun hc3 => ?_) (fun hc3 => ?_)
            · refine s_plain ?_
              refine p_val (e_loadEx rfl ag29 sz29 S 1 rfl rfl (by simp [length_join])) rfl ?_
              refine p_does (d_storeW S 0 rfl rfl (bv_one _) sz29 (by simp [length_join]) rfl rfl (by simp [hok.2])) rfl ?_
              intro _ w S
              refine p_nil ?_
              exact x_then ⟨_, rfl, _, join 31 [o.x], upds_eq ⟨rfl, rfl, rfl, rfl, rfl, rfl, rfl, rfl, rfl, rfl, rfl, trivial⟩, length_join _ _, S.pk [0, 1, 3, 4, 5, 6, 7] rfl⟩
            · refine s_skip ?_
              exact x_then ⟨_, rfl, _, o.h, upds_eq ⟨rfl, rfl, rfl, rfl, rfl, rfl, rfl, rfl, rfl, rfl, rfl, trivial⟩, hok.2, S.pk [0, 1, 3, 4, 5, 6, 7] rfl⟩
          · rintro _ w ⟨u, hl, rfl, hhl, S⟩
            refine x_then (s_seq (s_plain ?_))
            refine p_val (e_move (v := .pointer _) rfl) rfl ?_
            refine p_val (e_field rfl Try.underlying31 rfl sz29 (by decide)) rfl ?_
            refine p_val (e_loadN (cs := bv o.x) rfl ag29 sz29 (by simp [hok.1]) (S.opX 2 rfl rfl hok).loads) rfl ?_
            refine p_val (e_loadEx rfl ag29 sz29 S 0 rfl rfl (by simp [hhl])) rfl ?_
            refine p_does (d_call Try.func20 nm20 rfl rfl (put_calls _ b1 k1 L.length c1 L o.x hl hok.1 hhl (by omega) (S.hr [3, 4] rfl))) rfl ?_
            rintro _ w ⟨k1', c1', rfl, T⟩
            have S := (S.call [3, 4] T rfl).pk [2, 3, 4, 0, 1, 7, 8] rfl
            refine p_val (e_assign (v := .int _ _) rfl) rfl ?_
            refine p_nil (x_then (s_seq (s_seq (s_plain ?_))))
            refine p_val (e_loadEx rfl ag29 sz29 S 0 rfl rfl (by simp [hhl])) rfl ?_
            refine p_val (e_loadEx rfl ag29 sz29 S 1 rfl rfl (by simp [length_join])) rfl ?_
            refine p_val (EqT.sumN eq29 gd29 rfl rfl (hhl) (length_join _ _)) rfl ?_
            refine p_nil (x_then ?_)
            refine s_cond rfl (fun hc4 => ?_) (fun hc4 => ?_)
            · have hne : ¬ join 31 [o.x] = hl := fun e => hc4 e.symm
              refine s_seq (s_seq (s_plain ?_))
              refine p_val (e_move (v := .int _ _) rfl) rfl ?_
              refine p_val (e_neq rfl rfl) rfl ?_
              refine p_nil (x_then ?_)
              refine s_cond rfl (fun hc5 => ?_) (fun hc5 => ?_)
              · refine s_seq (s_plain ?_)
                refine p_val (e_assign (v := .bool _) rfl) rfl ?_
                refine p_nil (x_then (s_ret (x_then_ret (x_then_ret (x_in_ret (x_then_ret (x_then_ret (x_then_ret (x_in_ret (x_then_ret ?_))))))))))
                exact post1 (v := .bool _) Try.results3 rfl (absurd (if_neg hne) hc5)
              · refine s_skip (x_then (s_exit (x_then_exit (x_in_same ?_))))
                exact x_then ⟨_, rfl, _, k1', c1', k2, c2, Ac, nc, cc, L, upds_eq ⟨rfl, rfl, rfl, rfl, rfl, rfl, rfl, rfl, trivial⟩, by omega, hL, by have S := S.pk [3, 4, 5, 6] rfl; rw [if_neg hne, if_neg hne] at S; exact S⟩
            · refine s_skip (x_then (s_seq (s_plain ?_)))
              have he : join 31 [o.x] = hl := (Classical.not_not.1 hc4).symm
              refine p_val (e_move (v := .slice _ _ _) rfl) rfl ?_
              refine p_val (e_field rfl Try.underlying31 rfl sz29 (by decide)) rfl ?_
              refine p_val (e_loadN (cs := bv o.x) rfl ag29 sz29 (by simp [hok.1]) (S.opX 2 rfl rfl hok).loads) rfl ?_
              refine p_does (d_litS S Try.underlying24 sz29 zv29 rfl (L := [_]) rfl rfl (All32.single hok.1) (by decide)) rfl ?_
              rintro _ w ⟨b22, rfl, S⟩
              refine p_does (d_append S 6 rfl rfl Try.underlying24 el29 rfl rfl (S.rdRw 0 rfl rfl) (sv_one _) (by omega) (by unfold maxLen; omega)) rfl ?_
              rintro _ w ⟨k69, c69, rfl, S⟩
              refine p_val (e_assign (v := .slice _ _ _) rfl) rfl ?_
              refine p_nil (x_then (s_seq (s_plain ?_)))
              refine p_val (e_move (v := .int _ _) rfl) rfl ?_
              refine p_val (e_neq rfl rfl) rfl ?_
              refine p_nil (x_then ?_)
              refine s_cond rfl (fun hc6 => ?_) (fun hc6 => ?_)
              · refine s_seq (s_plain ?_)
                refine p_val (e_assign (v := .bool _) rfl) rfl ?_
                refine p_nil (x_then (s_ret (x_in_ret (x_then_ret (x_then_ret (x_then_ret (x_in_ret (x_then_ret ?_))))))))
                exact post1 (v := .bool _) Try.results3 rfl (absurd (if_pos he) hc6)
              · refine s_skip (x_in ?_)
                exact x_then ⟨_, rfl, _, k1', c1', k69, c69, Ac, nc, cc, L ++ [o.x], upds_eq ⟨rfl, rfl, rfl, rfl, show Value.slice (at_ k69) (L.length + 1) c69 = .slice (at_ k69) (L ++ [o.x]).length c69 from by rw [List.length_append]; rfl, rfl, rfl, rfl, trivial⟩, by rw [List.length_append]; simp only [List.length_cons, List.length_nil]; omega, hL.append (All32.single hok.1), by have S := S.pk [4, 5, 6, 7] rfl; rw [if_pos he, if_pos he, ← sv_append] at S; rw [List.length_append]; exact S⟩
      · rintro _ w ⟨u, k1, c1, k2, c2, Ac, nc, cc, L, rfl, hlen, hL, S⟩
        refine x_then (s_plain ?_)
        refine p_val (e_move (v := .int _ _) rfl) rfl ?_
        refine p_val (e_add64 rfl rfl (by omega)) rfl ?_
        refine p_val (e_assign (v := .int _ _) rfl) rfl ?_
        refine p_nil ?_
        refine x_round (g + 1) _ rfl ⟨by have h0 := hb1.1 hc1; omega, _, k1, c1, k2, c2, Ac, nc, cc, L, upds_eq ⟨rfl, rfl, rfl, rfl, rfl, rfl, rfl, rfl, trivial⟩, hlen, hL, S⟩ (by have h0 := hb1.1 hc1; omega)
    · refine s_exit (x_then_exit (x_then_exit (x_in_same (x_then (s_seq (s_plain ?_))))))
      refine p_val (e_move (v := .pointer _) rfl) rfl ?_
      refine p_does (d_call Try.func21 nm21 rfl rfl (all_calls _ b1 (at_ k1) L.length c1 L _ _ (by omega) (S.rdRw 1 rfl rfl) (S.exact_ 0 rfl rfl))) rfl ?_
      rintro _ w ⟨k3, c3, rfl, T⟩
      have S := S.merge T rfl
      refine p_val (e_assign (v := .slice _ _ _) rfl) rfl ?_
      refine p_nil (x_then (s_seq (s_seq ?_)))
      refine s_cut (fun f f' w' => ∃ (j74 j75 j76 j77 j78 j79 j80 j81 j82 j83 j84 j85 j86 j87 j88 j89 : Value) (b : Bool), f' = updo (updo (updo (updo (updo (updo (updo (updo (updo (updo (updo (updo (updo (updo (updo (updo (updo f (some 74) j74) (some 75) j75) (some 76) j76) (some 77) j77) (some 78) j78) (some 79) j79) (some 80) j80) (some 81) j81) (some 82) j82) (some 83) j83) (some 84) j84) (some 85) j85) (some 86) j86) (some 87) j87) (some 88) j88) (some 89) j89) (some 90) (.bool b) ∧ (b = true ↔ False) ∧ St w0 w' [] [k3, some b1, k1, k2, some b2] [Rw 29 32 L.length c3 (sv L), Ex #[.slice (at_ k1) L.length c1] 26, Rw 29 32 L.length c1 (sv L), Rw 29 32 L.length c2 (sv L), Ex #[.slice Ac nc cc] 26]) ?_ ?_
      · refine s_plain ?_
        refine p_val (e_move (v := .slice _ _ _) rfl) rfl ?_
        refine p_val (e_len rfl Try.underlying24) rfl ?_
        refine p_val (e_move (v := .slice _ _ _) rfl) rfl ?_
        refine p_val (e_len rfl Try.underlying24) rfl ?_
        refine p_valB (e_neq rfl rfl) rfl (fun hg4 => ?_) (fun hg4 => ?_)
        · exact (absurd rfl hg4)
        · refine p_val (e_move (v := .bool _) rfl) rfl ?_
          refine pg_val rfl rfl rfl rfl rfl (e_move (v := .pointer _) rfl) ?_
          refine pg_does rfl rfl rfl rfl rfl (d_call Try.func22 nm22 rfl rfl (len_calls _ b1 _ _ _ _ _ (S.exact_ 1 rfl rfl))) ?_
          rintro _ w ⟨rfl, hB⟩
          have S := S.below hB
          refine pg_val rfl rfl rfl rfl rfl (e_move (v := .slice _ _ _) rfl) ?_
          refine pg_val rfl rfl rfl rfl rfl (e_len rfl Try.underlying24) ?_
          refine pg_valB rfl rfl rfl rfl rfl (e_neq rfl rfl) (fun hg5 => ?_) (fun hg5 => ?_)
          · exact (absurd rfl hg5)
          · refine p_val (e_pick_f rfl rfl) rfl ?_
            refine p_val (e_move (v := .bool _) rfl) rfl ?_
            refine pg_does rfl rfl rfl rfl rfl (d_call Try.func22 nm22 rfl rfl (len_calls _ b2 _ _ _ _ _ (S.exact_ 4 rfl rfl))) ?_
            rintro _ w ⟨rfl, hB⟩
            have S := S.below hB
            refine pg_val rfl rfl rfl rfl rfl (e_move (v := .int _ _) rfl) ?_
            refine pg_val rfl rfl rfl rfl rfl (e_neq rfl rfl) ?_
            refine p_val (e_pick_f rfl rfl) rfl ?_
            exact p_nil (x_then ⟨_, rfl, _, _, _, _, _, _, _, _, _, _, _, _, _, _, _, _, _, rfl, by first | (simp only [decide_eq_true_eq, eq_self, true_iff, iff_true, iff_false, Bool.false_eq_true, false_iff, ge_iff_le, gt_iff_lt]; omega) | simp | omega, S⟩)
      · rintro _ w ⟨j74, j75, j76, j77, j78, j79, j80, j81, j82, j83, j84, j85, j86, j87, j88, j89, b903, rfl, hb3, S⟩
        refine x_then ?_
        refine s_condb rfl (fun hc7 => ?_) (fun hc7 => ?_)
        · refine s_seq (s_plain ?_)
          refine p_val (e_assign (v := .bool _) rfl) rfl ?_
          refine p_nil (x_then (s_ret (x_then_ret ?_)))
          exact post1 (v := .bool _) Try.results3 rfl (hb3.1 hc7).elim
        · refine s_skip (x_then (s_seq (s_seq (s_plain ?_))))
          refine p_val (e_assign (v := .int _ _) rfl) rfl ?_
          refine p_nil (x_then (s_block ?_))
          refine s_loop (α := Nat) (fun g f' w' => ∃ u, f' = upds u [(2, .int .i64 s1), (7, .pointer (some ⟨b1, 0, none⟩)), (8, .slice (at_ k2) L.length c2), (16, .slice (at_ k3) L.length c3), (17, .int .i64 (g : Int))] ∧ g ≤ L.length ∧ St w0 w' [] [k3, some b1, k1, k2] [Rw 29 32 L.length c3 (sv L), Ex #[.slice (at_ k1) L.length c1] 26, Rw 29 32 L.length c1 (sv L), Rw 29 32 L.length c2 (sv L)]) (fun g => L.length - g) (0) (⟨_, upds_eq ⟨rfl, rfl, rfl, rfl, rfl, trivial⟩, by omega, S.pk [0, 1, 2, 3] rfl⟩) ?_
          rintro g f w ⟨u, rfl, hg, S⟩
          refine s_seq (s_seq (s_plain ?_))
          refine p_val (e_move (v := .int _ _) rfl) rfl ?_
          refine p_val (e_move (v := .slice _ _ _) rfl) rfl ?_
          refine p_val (e_len rfl Try.underlying24) rfl ?_
          refine p_val (e_lss rfl rfl) rfl ?_
          refine p_nil (x_then ?_)
          refine s_cond rfl (fun hc8 => ?_) (fun hc8 => ?_)
          · refine s_skip (x_then (s_seq (s_block (s_seq (s_plain ?_)))))
            refine p_val (e_move (v := .pointer _) rfl) rfl ?_
            refine p_val (e_move (v := .int _ _) rfl) rfl ?_
            refine p_does (d_call Try.func23 nm23 rfl rfl (get_in _ b1 (at_ k1) c1 L (g : Int) _ _ hL (S.rdRw 2 rfl rfl) (S.exact_ 1 rfl rfl) ⟨by omega, by omega⟩)) rfl ?_
            rintro _ w ⟨rfl, hB⟩
            have S := S.below hB
            refine p_val (e_move (v := .tuple _) rfl) rfl ?_
            refine p_val (e_extract rfl rfl) rfl ?_
            refine p_val (e_extract rfl rfl) rfl ?_
            refine p_does (d_allocA S zv29) rfl ?_
            rintro _ w ⟨b11, rfl, S⟩
            refine p_does (d_storeW S 0 rfl rfl (bv_one _) sz29 (by rw [bv_length]; exact hL.getD (by omega)) rfl rfl (by rfl)) rfl ?_
            intro _ w S
            refine p_val (e_assign (v := .bool _) rfl) rfl ?_
            refine p_nil (x_then (s_seq ?_))
            obtain ⟨y3, rfl⟩ := S.rwSome 1 rfl rfl (by omega)
            obtain ⟨y2, rfl⟩ := S.rwSome 4 rfl rfl (by omega)
            refine s_cut (fun f f' w' => ∃ (j103 j104 j105 j106 j107 j108 j109 j110 j111 j112 j113 j114 j115 j116 j117 j118 j119 j120 j121 j122 : Value) (b : Bool), f' = updo (updo (updo (updo (updo (updo (updo (updo (updo (updo (updo (updo (updo (updo (updo (updo (updo (updo (updo (updo (updo f (some 103) j103) (some 104) j104) (some 105) j105) (some 106) j106) (some 107) j107) (some 108) j108) (some 109) j109) (some 110) j110) (some 111) j111) (some 112) j112) (some 113) j113) (some 114) j114) (some 115) j115) (some 116) j116) (some 117) j117) (some 118) j118) (some 119) j119) (some 120) j120) (some 121) j121) (some 122) j122) (some 123) (.bool b) ∧ (b = true ↔ False) ∧ St w0 w' [] [some y3, some b1, k1, some y2] [Rw 29 32 L.length c3 (sv L), Ex #[.slice (at_ k1) L.length c1] 26, Rw 29 32 L.length c1 (sv L), Rw 29 32 L.length c2 (sv L)]) ?_ ?_
            · refine s_draw [(true, 0), (true, 1), (true, 2), (true, 3), (true, 4), (true, 5), (true, 6), (true, 7), (true, 8), (true, 9), (true, 10), (true, 11), (true, 12), (true, 13), (true, 14), (true, 15), (true, 16), (true, 17), (true, 18), (true, 19), (true, 20)] (fun w' => St w0 w' [] [some b11, some y3, some b1, k1, some y2] [Ex (bv (L.getD (g : Int).toNat [])).toArray 29, Rw 29 32 L.length c3 (sv L), Ex #[.slice (at_ k1) L.length c1] 26, Rw 29 32 L.length c1 (sv L), Rw 29 32 L.length c2 (sv L)]) mixed (by kernel_rfl) (by repeat (first | exact Calm.post _ _ _ | refine Calm.then ?_ _ | refine Calm.inB ?_ _)) ?_
              have S := S.drew
              have hS := S
              refine q_val (fun w hS => e_move (v := .slice _ _ _) rfl) rfl hS ?_
              refine q_val (fun w hS => e_move (v := .int _ _) rfl) rfl hS ?_
              refine q_val (fun w hS => e_ix_sl rfl rfl Try.underlying24 sz29 (by omega)) rfl hS ?_
              refine q_val (fun w hS => e_loadN (cs := bv (L.getD (g : Int).toNat [])) rfl ag29 sz29 (by rw [bv_length]; exact hL.getD (by omega)) (Rd.sum (hS.rdRw 1 rfl rfl) hL ⟨by omega, by omega⟩)) rfl hS ?_
              refine q_val (fun w hS => e_move (v := .slice _ _ _) rfl) rfl hS ?_
              refine q_val (fun w hS => e_move (v := .int _ _) rfl) rfl hS ?_
              refine q_val (fun w hS => e_ix_sl rfl rfl Try.underlying24 sz29 (by omega)) rfl hS ?_
              refine q_val (fun w hS => e_loadN (cs := bv (L.getD (g : Int).toNat [])) rfl ag29 sz29 (by rw [bv_length]; exact hL.getD (by omega)) (Rd.sum (hS.rdRw 4 rfl rfl) hL ⟨by omega, by omega⟩)) rfl hS ?_
              refine q_valB (fun w hS => EqT.sumN eq29 gd29 rfl rfl (hL.getD (by omega)) (hL.getD (by omega))) rfl hS (fun hg7 => ?_) (fun hg7 => ?_)
              · exact (absurd rfl hg7)
              · refine q_val (fun w hS => e_move (v := .bool _) rfl) rfl hS ?_
                refine qg_val rfl rfl rfl rfl rfl (fun w hS => e_loadEx rfl ag29 sz29 hS 0 rfl rfl (by rw [List.size_toArray, bv_length]; exact hL.getD (by omega))) hS ?_
                refine qg_val rfl rfl rfl rfl rfl (fun w hS => e_move (v := .slice _ _ _) rfl) hS ?_
                refine qg_val rfl rfl rfl rfl rfl (fun w hS => e_move (v := .int _ _) rfl) hS ?_
                refine qg_val rfl rfl rfl rfl rfl (fun w hS => e_ix_sl rfl rfl Try.underlying24 sz29 (by omega)) hS ?_
                refine qg_val rfl rfl rfl rfl rfl (fun w hS => e_loadN (cs := bv (L.getD (g : Int).toNat [])) rfl ag29 sz29 (by rw [bv_length]; exact hL.getD (by omega)) (Rd.sum (hS.rdRw 4 rfl rfl) hL ⟨by omega, by omega⟩)) hS ?_
                refine qg_valB rfl rfl rfl rfl rfl (fun w hS => EqT.sumN eq29 gd29 rfl rfl (hL.getD (by omega)) (hL.getD (by omega))) hS (fun hg8 => ?_) (fun hg8 => ?_)
                · exact (absurd rfl hg8)
                · refine q_val (fun w hS => e_pick_f rfl rfl) rfl hS ?_
                  refine q_val (fun w hS => e_move (v := .bool _) rfl) rfl hS ?_
                  refine qg_val rfl rfl rfl rfl rfl (fun w hS => e_move (v := .bool _) rfl) hS ?_
                  refine qg_val rfl rfl rfl rfl rfl (fun w hS => e_not rfl) hS ?_
                  refine q_val (fun w hS => e_pick_f rfl rfl) rfl hS ?_
                  exact q_nil (x_then ⟨_, rfl, _, _, _, _, _, _, _, _, _, _, _, _, _, _, _, _, _, _, _, _, _, rfl, by first | (simp only [decide_eq_true_eq, eq_self, true_iff, iff_true, iff_false, Bool.false_eq_true, false_iff, ge_iff_le, gt_iff_lt]; omega) | simp | omega, S.tail⟩)
            · rintro _ w ⟨j103, j104, j105, j106, j107, j108, j109, j110, j111, j112, j113, j114, j115, j116, j117, j118, j119, j120, j121, j122, b906, rfl, hb6, S⟩
              refine x_then ?_
              refine s_condb rfl (fun hc9 => ?_) (fun hc9 => ?_)
              · refine s_seq (s_plain ?_)
                refine p_val (e_assign (v := .bool _) rfl) rfl ?_
                refine p_nil (x_then (s_ret (x_in_ret (x_then_ret (x_then_ret (x_in_ret (x_then_ret ?_)))))))
                exact post1 (v := .bool _) Try.results3 rfl (hb6.1 hc9).elim
              · refine s_skip (x_in (x_then (s_plain ?_)))
                refine p_val (e_move (v := .int _ _) rfl) rfl ?_
                refine p_val (e_add64 rfl rfl (by omega)) rfl ?_
                refine p_val (e_assign (v := .int _ _) rfl) rfl ?_
                refine p_nil ?_
                refine x_round (g + 1) _ rfl ⟨_, upds_eq ⟨rfl, rfl, rfl, rfl, rfl, trivial⟩, by omega, S⟩ (by omega)
          · refine s_exit (x_then_exit (x_then_exit (x_in_same (x_then (s_seq (s_plain ?_))))))
            refine p_val (e_move (v := .pointer _) rfl) rfl ?_
            refine p_val (e_move (v := .int _ _) rfl) rfl ?_
            refine p_does (d_call Try.func23 nm23 rfl rfl (get_calls _ b1 (at_ k1) c1 L s1 _ _ hL (S.rdRw 2 rfl rfl) (S.exact_ 1 rfl rfl))) rfl ?_
            rintro _ w ⟨rfl, hB⟩
            have S := S.below hB
            refine p_val (e_move (v := .tuple _) rfl) rfl ?_
            refine p_val (e_extract rfl rfl) rfl ?_
            refine p_val (e_extract rfl rfl) rfl ?_
            refine p_does (d_allocA S zv29) rfl ?_
            rintro _ w ⟨b11, rfl, S⟩
            refine p_does (d_storeW S 0 rfl rfl (bv_one _) sz29 (by rw [bv_length]; split <;> first | exact length_zeros | exact hL.getD (by omega)) rfl rfl (by rfl)) rfl ?_
            intro _ w S
            refine p_val (e_assign (v := .bool _) rfl) rfl ?_
            refine p_nil (x_then (s_seq ?_))
            refine s_cut (fun f f' w' => ∃ (j130 j131 j132 j133 j134 j135 j136 j137 j138 j139 j140 j141 j142 : Value) (b : Bool), f' = updo (updo (updo (updo (updo (updo (updo (updo (updo (updo (updo (updo (updo (updo f (some 130) j130) (some 131) j131) (some 132) j132) (some 133) j133) (some 134) j134) (some 135) j135) (some 136) j136) (some 137) j137) (some 138) j138) (some 139) j139) (some 140) j140) (some 141) j141) (some 142) j142) (some 6) (.bool b) ∧ (b = true ↔ True) ∧ Below w0.heap.size w0 w') ?_ ?_
            · refine s_plain ?_
              refine p_val (e_move (v := .bool _) rfl) rfl ?_
              refine p_val (e_move (v := .int _ _) rfl) rfl ?_
              refine p_valB (e_geq rfl rfl) rfl (fun hg10 => ?_) (fun hg10 => ?_)
              · refine p_val (e_move (v := .bool _) rfl) rfl ?_
                refine pg_val rfl rfl rfl rfl rfl (e_move (v := .int _ _) rfl) ?_
                refine pg_val rfl rfl rfl rfl rfl (e_move (v := .slice _ _ _) rfl) ?_
                refine pg_val rfl rfl rfl rfl rfl (e_len rfl Try.underlying24) ?_
                refine pg_val rfl rfl rfl rfl rfl (e_lss rfl rfl) ?_
                refine p_val (e_pick_t rfl rfl) rfl ?_
                refine p_valb (e_eqlB rfl rfl Try.underlying4) rfl (fun hg11 => ?_) (fun hg11 => ?_)
                · refine p_val (e_move (v := .bool _) rfl) rfl ?_
                  refine pg_does rfl rfl rfl rfl rfl (d_call Try.func24 nm24 rfl rfl (awake_calls _)) ?_
                  rintro _ w ⟨rfl, hB⟩
                  have S := S.below hB
                  refine p_val (e_pick_t rfl rfl) rfl ?_
                  refine p_val (e_assign (v := .bool _) rfl) rfl ?_
                  exact p_nil (x_then ⟨_, rfl, _, _, _, _, _, _, _, _, _, _, _, _, _, _, rfl, by first | (simp only [decide_eq_true_eq, eq_self, true_iff, iff_true, iff_false, Bool.false_eq_true, false_iff, ge_iff_le, gt_iff_lt]; omega) | simp | omega, S.to_below⟩)
                · exact (by simp [hg10] at hg11)
              · refine p_val (e_move (v := .bool _) rfl) rfl ?_
                refine p_no rfl rfl rfl rfl rfl ?_
                refine p_no rfl rfl rfl rfl rfl ?_
                refine p_no rfl rfl rfl rfl rfl ?_
                refine p_no rfl rfl rfl rfl rfl ?_
                refine p_val (e_pick_f rfl rfl) rfl ?_
                refine p_valb (e_eqlB rfl rfl Try.underlying4) rfl (fun hg12 => ?_) (fun hg12 => ?_)
                · refine p_val (e_move (v := .bool _) rfl) rfl ?_
                  refine pg_does rfl rfl rfl rfl rfl (d_call Try.func24 nm24 rfl rfl (awake_calls _)) ?_
                  rintro _ w ⟨rfl, hB⟩
                  have S := S.below hB
                  refine p_val (e_pick_t rfl rfl) rfl ?_
                  refine p_val (e_assign (v := .bool _) rfl) rfl ?_
                  exact p_nil (x_then ⟨_, rfl, _, _, _, _, _, _, _, _, _, _, _, _, _, _, rfl, by first | (simp only [decide_eq_true_eq, eq_self, true_iff, iff_true, iff_false, Bool.false_eq_true, false_iff, ge_iff_le, gt_iff_lt]; omega) | simp | omega, S.to_below⟩)
                · exact (by simp at hg12; omega)
            · rintro _ w ⟨j130, j131, j132, j133, j134, j135, j136, j137, j138, j139, j140, j141, j142, b909, rfl, hb9, S⟩
              refine x_then (s_ret ?_)
              exact post1 (v := .bool _) Try.results3 rfl ⟨by rw [hb9.2 trivial], S⟩
end Go.Proofs.Ytdhfiamgmokfbaa
