/- Receipts that are signed: their bytes, and what is read of bytes. It proves no statement by itself. -/
import Derived.Test.YtcgcjklpilbndaaRcp
set_option linter.unusedSimpArgs false
set_option linter.unusedVariables false
set_option maxRecDepth 100000
set_option maxHeartbeats 1000000
namespace Go.Proofs.Ytcgcjklpilbndaa
open Go Go.RowKit E
attribute [local irreducible] wpList seqH treeH
def sgdC (r : Rcp) (A : Option Addr) (n c : Nat) : List (List Value) := [[.int .i64 r.t], [.int .i64 r.c], [.int .i64 r.s], bv r.h, bv r.b, [.slice A n c]]
def sput (r : Rcp) (s : List Nat) : List Nat := num (rtext r).length ++ rtext r ++ num s.length ++ s
def rSgd (l : List Nat) : Rcp × List Nat × Int :=
  let a := rText 65536 0 l
  let b := rText 65536 a.2.1 a.2.2
  let e := rDone b.2.1 b.2.2
  if e = 0 then (if (rRcp a.1).2 = 0 then ((rRcp a.1).1, b.1, 0) else (Rcp.zero, [], (rRcp a.1).2)) else (Rcp.zero, [], e)
theorem rUpto_le {m e a e1 : Int} {l l1 : List Nat} (hm : 0 ≤ m) (h : rUpto m e l = (a, e1, l1)) : a ≤ m := by
  unfold rUpto at h
  simp only [Prod.mk.injEq] at h
  obtain ⟨h1, h2, h3⟩ := h
  rw [h2] at h1
  split at h1
  · rename_i he
    split at h2
    · unfold rFail at h2
      split at h2
      · omega
      · omega
    · omega
  · omega
theorem rText_len {m e e1 : Int} {l s l1 : List Nat} (hm : 0 ≤ m) (h : rText m e l = (s, e1, l1)) : (s.length : Int) ≤ m := by
  have h1 := rUpto_le (m := m) (e := e) (l := l) hm (a := (rUpto m e l).1) (e1 := (rUpto m e l).2.1) (l1 := (rUpto m e l).2.2) rfl
  unfold rText at h
  rcases rRaw_len h with h2 | h2
  · subst h2; simpa using hm
  · omega
theorem rcp_ok (l : List Nat) : (rRcp l).1.ok := by
  have hs : ∀ e l, (rSum e l).1.length = 32 := fun e l => length_sum32 _
  unfold rRcp
  simp only
  split
  · exact ⟨hs _ _, hs _ _⟩
  · exact ⟨length_zsum, length_zsum⟩
theorem sg_put (w0 : World) (r : Rcp) (A : Option Addr) (c : Nat) (s : List Nat) (hr : r.ok) (R : Rd w0 1 A s.length (bv s)) (nR : s.length ≤ 1099510000000) :
    Ret Try.prog 28 [.agg (cat (sgdC r A s.length c)).toArray] w0 fun v w' => ∃ k c, v = .slice (at_ k) (sput r s).length c ∧ St w0 w' [] [k] [Rw 5 1 (sput r s).length c (bv (sput r s))] := by
  refine enter Try.func28 rfl Try.ntmps28 (Nat.le_of_ble_eq_true rfl) ?_
  have S := St.init w0
  have h1 := rtext_len hr
  have h2 := num_len (rtext r).length
  have h3 := num_len s.length
  refine s_seq (s_plain ?_)
  refine p_does (d_boxA S rfl) rfl ?_
  rintro _ w ⟨b1, rfl, S⟩
  refine p_val (e_assign (v := .slice _ _ _) rfl) rfl ?_
  refine p_nil (x_then (s_seq (s_plain ?_)))
  refine p_does (d_allocA S zs56) rfl ?_
  rintro _ w ⟨b3, rfl, S⟩
  have S := pen_new S
  refine p_nil (x_then (s_seq ?_))
  refine s_drawK (ks := [some b1]) (ps := [Ex _ _]) (S.pk [2] rfl) [(true, 0), (true, 1), (true, 4), (true, 5), (false, 2), (false, 3), (false, 6), (false, 7)] [8] [8] mixed (by kernel_rfl) (by repeat (first | exact Calm.post _ _ _ | refine Calm.then ?_ _ | refine Calm.inB ?_ _)) (fun hS => ?_)
  have S := S.drew
  refine q_val (fun w hS => e_field rfl Try.underlying54 rfl sz46 (by decide)) rfl hS ?_
  refine q_val (fun w hS => e_loadFS (i := 0) (n := 5) (off := 0) rfl ag46 sz46 (by decide) hS (j := 0) rfl rfl (by first | with_reducible assumption | (simp [cat, sgdC, hr.1, hr.2]; done) | (simp [cat, sgdC, hr.1, hr.2]; omega) | rfl) (by first | with_reducible assumption | (simp [cat, sgdC, hr.1, hr.2]; done) | (simp [cat, sgdC, hr.1, hr.2]; omega) | rfl)) rfl hS ?_
  refine q_val (fun w hS => e_field rfl Try.underlying54 rfl sz47 (by decide)) rfl hS ?_
  refine q_val (fun w hS => e_loadF1 (i := 5) (off := 67) rfl ag47 hS (j := 0) rfl rfl rfl (by first | with_reducible assumption | (simp [cat, sgdC, hr.1, hr.2]; done) | (simp [cat, sgdC, hr.1, hr.2]; omega) | rfl)) rfl hS ?_
  refine q_does (d_call Try.func21 nm21 rfl rfl (rc_text _ r hr)) rfl ?_
  rintro _ w ⟨k6, c6, rfl, T⟩
  have S := S.merge T rfl
  have hS := S.pk [3] rfl
  refine ⟨hS, ?_⟩
  refine q_does (d_call Try.func25 nm25 rfl rfl (pen_text _ _ _ _ _ _ _ _ _ (S.hr [1, 2] rfl) (S.rdRw 0 rfl rfl) (S.offRow 0 [1, 2] rfl rfl) (by first | omega | (simp only [List.length_append, List.length_cons, List.length_nil, bv_length, sgdC, hr.1, hr.2]; omega) | (simp [cat, sgdC, hr.1, hr.2]; omega)))) rfl ?_
  rintro _ w ⟨rfl, k7, c7, T⟩
  have S := (S.call [1, 2] T rfl).pk [2, 0, 1, 5] rfl
  have hS := S.pk [3] rfl
  refine ⟨hS, ?_⟩
  refine q_does (d_call Try.func25 nm25 rfl rfl (pen_text _ _ _ _ _ _ _ _ _ (S.hr [1, 2] rfl) (S.rdOld R rfl) (S.offOld [1, 2] R (by decide) Off.nil rfl) (by first | omega | (simp only [List.length_append, List.length_cons, List.length_nil, bv_length, sgdC, hr.1, hr.2]; omega) | (simp [cat, sgdC, hr.1, hr.2]; omega)))) rfl ?_
  rintro _ w ⟨rfl, k10, c10, T⟩
  have S := (S.call [1, 2] T rfl).pk [2, 0, 1, 5] rfl
  have hS := S.pk [3] rfl
  refine ⟨hS, ?_⟩
  refine q_does (d_call Try.func26 nm26 rfl rfl (pen_bytes _ _ _ _ _ (S.exact_ 1 rfl rfl) (S.rdRw 2 rfl rfl) (by first | omega | (simp only [List.length_append, List.length_cons, List.length_nil, bv_length, sgdC, hr.1, hr.2]; omega) | (simp [cat, sgdC, hr.1, hr.2]; omega)))) rfl ?_
  rintro _ w ⟨k11, c11, rfl, T⟩
  have S := S.merge T rfl
  have hS := S.pk [4] rfl
  refine ⟨hS, ?_⟩
  refine q_nil ?_
  refine p_val (e_assign (v := .slice _ _ _) rfl) rfl ?_
  refine p_nil (x_then (s_ret ?_))
  exact post1 (v := .slice _ _ _) Try.results28 rfl (by have e : [] ++ num (rtext r).length ++ rtext r ++ num s.length ++ s = sput r s := by { simp [sput] }; rw [← e]; exact ⟨_, _, rfl, S.pk [0] rfl⟩)
theorem sg_get (w0 : World) (A : Option Addr) (c : Nat) (l : List Nat) (R : Rd w0 1 A l.length (bv l)) (bR : Bytes l) (cR : l.length ≤ c) (nR : l.length ≤ 1099511000000) :
    Ret Try.prog 27 [.slice A l.length c] w0 fun v w' => ∃ k c2, v = .tuple #[.agg (cat (sgdC (rSgd l).1 (at_ k) (rSgd l).2.1.length c2)).toArray, .int .i64 (rSgd l).2.2] ∧ St w0 w' [] [k] [Rw 5 1 (rSgd l).2.1.length c2 (bv (rSgd l).2.1)] := by
  refine enter Try.func27 rfl Try.ntmps27 (Nat.le_of_ble_eq_true rfl) ?_
  have S := St.init w0
  refine s_seq (s_plain ?_)
  refine p_does (d_allocA S zs54) rfl ?_
  rintro _ w ⟨b2, rfl, S⟩
  refine p_val (e_assign (v := .int _ _) rfl) rfl ?_
  refine p_nil (x_then (s_seq (s_plain ?_)))
  refine p_val (e_move (v := .slice _ _ _) rfl) rfl ?_
  refine p_does (d_call Try.func52 nm52 rfl rfl (eye_look _ _ _ _)) rfl ?_
  rintro _ w ⟨b11, rfl, T⟩
  have S := S.merge T rfl
  refine p_val (e_assign (v := .pointer _) rfl) rfl ?_
  refine p_nil (x_then (s_seq (s_plain ?_)))
  refine p_val (e_move (v := .pointer _) rfl) rfl ?_
  refine p_does (d_call Try.func59 nm59 rfl rfl (eye_text _ _ _ _ _ _ _ (S.hr [0] rfl) (S.rdOld R rfl) (S.offOld [0] R (by decide) Off.nil rfl) bR cR nR)) rfl ?_
  rintro _ w ⟨k13, cc13, s13, e13, l13, A13, c13, q13, rfl, t13, T⟩
  have S := (S.call [0] T rfl).pk [0, 1, 3] rfl
  have R13 := t13.rd _ R
  have bR13 := t13.by_ bR
  have cR13 := t13.cap
  have nR13 := t13.len nR
  refine p_val (e_move (v := .pointer _) rfl) rfl ?_
  refine p_does (d_call Try.func59 nm59 rfl rfl (eye_text _ _ _ _ _ _ _ (S.hr [1] rfl) (S.rdOld R13 rfl) (S.offOld [1] R13 (by decide) Off.nil rfl) bR13 cR13 nR13)) rfl ?_
  rintro _ w ⟨k15, cc15, s15, e15, l15, A15, c15, q15, rfl, t15, T⟩
  have S := (S.call [1] T rfl).pk [0, 2, 1, 4] rfl
  have R15 := t15.rd _ R13
  have bR15 := t15.by_ bR13
  have cR15 := t15.cap
  have nR15 := t15.len nR13
  have hok := rcp_ok s13
  have bs13 : Bytes s13 := rText_bytes bR q13
  have ns13 := rText_len (by decide) q13
  refine p_val (e_assign (v := .slice _ _ _) rfl) rfl ?_
  refine p_val (e_assign (v := .slice _ _ _) rfl) rfl ?_
  refine p_nil (x_then (s_seq (s_seq (s_plain ?_))))
  refine p_val (e_move (v := .pointer _) rfl) rfl ?_
  refine p_does (d_call Try.func55 nm55 rfl rfl (eye_done _ _ _ _ _ _ (S.hr [2] rfl))) rfl ?_
  rintro _ w ⟨rfl, T⟩
  have S := (S.call [2] T rfl).pk [1, 2, 0, 4] rfl
  refine p_val (e_assign (v := .int _ _) rfl) rfl ?_
  refine p_nil (x_then (s_seq (s_plain ?_)))
  refine p_val (e_move (v := .int _ _) rfl) rfl ?_
  refine p_val (e_neq rfl rfl) rfl ?_
  refine p_nil (x_then ?_)
  refine s_cond rfl (fun hc19 => ?_) (fun hc19 => ?_)
  · have e0 : rSgd l = (Rcp.zero, [], rDone e15 l15) := by simp only [rSgd, q13, q15, if_neg hc19]
    refine s_seq (s_plain ?_)
    refine p_val (e_buildS0 bt54) rfl ?_
    refine p_val (e_move (v := .int _ _) rfl) rfl ?_
    refine p_does (d_storeW S 3 rfl rfl (by first | exact bv_one _ | exact sv_one _ | exact iv_one _ | with_reducible assumption | (refine One.mem ?_; repeat (first | exact One.bv _ | exact One.sv _ | exact One.iv _ | exact One.nil | exact One.cat0 | refine One.cat1 ?_ ?_ | refine One.cons rfl ?_ | refine One.append ?_ ?_))) sz54 (by first | with_reducible assumption | (simp [cat, length_zsum, sgdC, rcpC, hok.1, hok.2, zc46, zc54]; done) | (simp [cat, length_zsum, sgdC, rcpC, hok.1, hok.2, zc46, zc54]; omega) | rfl) rfl rfl (by first | with_reducible assumption | (simp [cat, length_zsum, sgdC, rcpC, hok.1, hok.2, zc46, zc54]; done) | (simp [cat, length_zsum, sgdC, rcpC, hok.1, hok.2, zc46, zc54]; omega) | rfl)) rfl ?_
    intro _ w S
    refine p_val (e_assign (v := .int _ _) rfl) rfl ?_
    refine p_nil (x_then (s_ret (x_then_ret ?_)))
    exact postC1 (v := .int _ _) Try.results27 S 3 rfl rfl rfl rfl ag54 sz54 (by first | with_reducible assumption | (simp [cat, length_zsum, sgdC, rcpC, hok.1, hok.2, zc46, zc54]; done) | (simp [cat, length_zsum, sgdC, rcpC, hok.1, hok.2, zc46, zc54]; omega) | rfl) (by rw [e0]; exact ⟨none, 0, rfl, S.none_.addNil 5 1⟩)
  · refine s_skip (x_then (s_seq (s_plain ?_)))
    refine p_val (e_move (v := .slice _ _ _) rfl) rfl ?_
    refine p_does (d_call Try.func19 nm19 rfl rfl (rc_read _ _ _ _ (S.rdRw 1 rfl rfl) (bs13) (S.capRw 1 rfl rfl) (by first | omega | (simp only [List.length_append, List.length_cons, List.length_nil, bv_length, length_zsum, sgdC, rcpC, hok.1, hok.2, zc46, zc54]; omega) | (simp [cat, length_zsum, sgdC, rcpC, hok.1, hok.2, zc46, zc54]; omega)))) rfl ?_
    rintro _ w ⟨rfl, hB⟩
    have S := S.below hB
    refine p_val (e_move (v := .tuple _) rfl) rfl ?_
    refine p_val (e_extract rfl rfl) rfl ?_
    refine p_val (e_extract rfl rfl) rfl ?_
    refine p_does (d_allocA S zs46) rfl ?_
    rintro _ w ⟨b8, rfl, S⟩
    refine p_does (d_storeW S 0 rfl rfl (by first | exact bv_one _ | exact sv_one _ | exact iv_one _ | with_reducible assumption | (refine One.mem ?_; repeat (first | exact One.bv _ | exact One.sv _ | exact One.iv _ | exact One.nil | exact One.cat0 | refine One.cat1 ?_ ?_ | refine One.cons rfl ?_ | refine One.append ?_ ?_))) sz46 (by first | with_reducible assumption | (simp [cat, length_zsum, sgdC, rcpC, hok.1, hok.2, zc46, zc54]; done) | (simp [cat, length_zsum, sgdC, rcpC, hok.1, hok.2, zc46, zc54]; omega) | rfl) rfl rfl (by first | with_reducible assumption | (simp [cat, length_zsum, sgdC, rcpC, hok.1, hok.2, zc46, zc54]; done) | (simp [cat, length_zsum, sgdC, rcpC, hok.1, hok.2, zc46, zc54]; omega) | rfl)) rfl ?_
    intro _ w S
    refine p_val (e_assign (v := .int _ _) rfl) rfl ?_
    refine p_nil (x_then (s_seq (s_seq (s_plain ?_))))
    refine p_val (e_move (v := .int _ _) rfl) rfl ?_
    refine p_val (e_neq rfl rfl) rfl ?_
    refine p_nil (x_then ?_)
    refine s_cond rfl (fun hc28 => ?_) (fun hc28 => ?_)
    · have e0 : rSgd l = (Rcp.zero, [], (rRcp s13).2) := by simp only [rSgd, q13, q15, if_pos (Classical.not_not.1 hc19), if_neg hc28]
      refine s_seq (s_plain ?_)
      refine p_val (e_buildS0 bt54) rfl ?_
      refine p_val (e_move (v := .int _ _) rfl) rfl ?_
      refine p_does (d_storeW S 4 rfl rfl (by first | exact bv_one _ | exact sv_one _ | exact iv_one _ | with_reducible assumption | (refine One.mem ?_; repeat (first | exact One.bv _ | exact One.sv _ | exact One.iv _ | exact One.nil | exact One.cat0 | refine One.cat1 ?_ ?_ | refine One.cons rfl ?_ | refine One.append ?_ ?_))) sz54 (by first | with_reducible assumption | (simp [cat, length_zsum, sgdC, rcpC, hok.1, hok.2, zc46, zc54]; done) | (simp [cat, length_zsum, sgdC, rcpC, hok.1, hok.2, zc46, zc54]; omega) | rfl) rfl rfl (by first | with_reducible assumption | (simp [cat, length_zsum, sgdC, rcpC, hok.1, hok.2, zc46, zc54]; done) | (simp [cat, length_zsum, sgdC, rcpC, hok.1, hok.2, zc46, zc54]; omega) | rfl)) rfl ?_
      intro _ w S
      refine p_val (e_assign (v := .int _ _) rfl) rfl ?_
      refine p_nil (x_then (s_ret (x_then_ret ?_)))
      exact postC1 (v := .int _ _) Try.results27 S 4 rfl rfl rfl rfl ag54 sz54 (by first | with_reducible assumption | (simp [cat, length_zsum, sgdC, rcpC, hok.1, hok.2, zc46, zc54]; done) | (simp [cat, length_zsum, sgdC, rcpC, hok.1, hok.2, zc46, zc54]; omega) | rfl) (by rw [e0]; exact ⟨none, 0, rfl, S.none_.addNil 5 1⟩)
    · have e0 : rSgd l = ((rRcp s13).1, s15, 0) := by simp only [rSgd, q13, q15, if_pos (Classical.not_not.1 hc19), if_pos (Classical.not_not.1 hc28)]
      refine s_skip (x_then (s_seq (s_plain ?_)))
      refine p_val (e_loadW 0 rfl ag46 sz46 S rfl rfl (by first | with_reducible assumption | (simp [cat, length_zsum, sgdC, rcpC, hok.1, hok.2, zc46, zc54]; done) | (simp [cat, length_zsum, sgdC, rcpC, hok.1, hok.2, zc46, zc54]; omega) | rfl)) rfl ?_
      refine p_val (e_move (v := .slice _ _ _) rfl) rfl ?_
      refine p_val (e_buildS bt54 (Eq.trans (fill_cat (v := .agg _) (l' := _) 0 5 rfl (rfl) (by first | with_reducible assumption | (simp [cat, length_zsum, sgdC, rcpC, hok.1, hok.2, zc46, zc54]; done) | (simp [cat, length_zsum, sgdC, rcpC, hok.1, hok.2, zc46, zc54]; omega) | rfl) (by first | with_reducible assumption | (simp [cat, length_zsum, sgdC, rcpC, hok.1, hok.2, zc46, zc54]; done) | (simp [cat, length_zsum, sgdC, rcpC, hok.1, hok.2, zc46, zc54]; omega) | rfl) (by first | with_reducible assumption | (simp [cat, length_zsum, sgdC, rcpC, hok.1, hok.2, zc46, zc54]; done) | (simp [cat, length_zsum, sgdC, rcpC, hok.1, hok.2, zc46, zc54]; omega) | rfl)) (Eq.trans (fill_cat (v := .slice _ _ _) (l' := [[_]]) 5 1 rfl (rfl) (by first | with_reducible assumption | (simp [cat, length_zsum, sgdC, rcpC, hok.1, hok.2, zc46, zc54]; done) | (simp [cat, length_zsum, sgdC, rcpC, hok.1, hok.2, zc46, zc54]; omega) | rfl) (by first | with_reducible assumption | (simp [cat, length_zsum, sgdC, rcpC, hok.1, hok.2, zc46, zc54]; done) | (simp [cat, length_zsum, sgdC, rcpC, hok.1, hok.2, zc46, zc54]; omega) | rfl) (by first | with_reducible assumption | (simp [cat, length_zsum, sgdC, rcpC, hok.1, hok.2, zc46, zc54]; done) | (simp [cat, length_zsum, sgdC, rcpC, hok.1, hok.2, zc46, zc54]; omega) | rfl)) rfl))) rfl ?_
      refine p_does (d_storeW S 4 rfl rfl (by first | exact bv_one _ | exact sv_one _ | exact iv_one _ | with_reducible assumption | (refine One.mem ?_; repeat (first | exact One.bv _ | exact One.sv _ | exact One.iv _ | exact One.nil | exact One.cat0 | refine One.cat1 ?_ ?_ | refine One.cons rfl ?_ | refine One.append ?_ ?_))) sz54 (by first | with_reducible assumption | (simp [cat, length_zsum, sgdC, rcpC, hok.1, hok.2, zc46, zc54]; done) | (simp [cat, length_zsum, sgdC, rcpC, hok.1, hok.2, zc46, zc54]; omega) | rfl) rfl rfl (by first | with_reducible assumption | (simp [cat, length_zsum, sgdC, rcpC, hok.1, hok.2, zc46, zc54]; done) | (simp [cat, length_zsum, sgdC, rcpC, hok.1, hok.2, zc46, zc54]; omega) | rfl)) rfl ?_
      intro _ w S
      refine p_val (e_assign (v := .int _ _) rfl) rfl ?_
      refine p_nil (x_then (s_ret ?_))
      exact postC1 (v := .int _ _) Try.results27 S 4 rfl rfl rfl rfl ag54 sz54 (by first | with_reducible assumption | (simp [cat, length_zsum, sgdC, rcpC, hok.1, hok.2, zc46, zc54]; done) | (simp [cat, length_zsum, sgdC, rcpC, hok.1, hok.2, zc46, zc54]; omega) | rfl) (by rw [e0]; exact ⟨_, _, rfl, S.pk [1] rfl⟩)
end Go.Proofs.Ytcgcjklpilbndaa
