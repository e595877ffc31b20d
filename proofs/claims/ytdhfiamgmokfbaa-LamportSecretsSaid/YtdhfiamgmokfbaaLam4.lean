/- Lamport's signatures. It proves no statement by itself. -/
import Derived.Test.YtdhfiamgmokfbaaLam3
set_option linter.unusedSimpArgs false
set_option linter.unusedVariables false
set_option maxRecDepth 100000
set_option maxHeartbeats 2000000
namespace Go.Proofs.Ytdhfiamgmokfbaa
open Go Go.RowKit E
def sigS (s d : List Nat) (i : Nat) : List Nat := lsec s (i : Int) (((lbit d i : Nat) : Int) % 2)
def sigO (s d : List Nat) (i : Nat) : List Nat := lshown (lsec s (i : Int) ((1 - ((lbit d i : Nat) : Int)) % 2))
def sigB (s d : List Nat) : Nat → List Nat
  | 0 => []
  | i + 1 => sigB s d i ++ sigS s d i ++ sigO s d i
def lsig (s l : List Nat) : List Nat := sigB s (ldig l) 64
theorem length_sigS (s d : List Nat) (i : Nat) : (sigS s d i).length = 32 := length_lsec _ _ _
theorem length_sigO (s d : List Nat) (i : Nat) : (sigO s d i).length = 32 := length_lshown _
theorem length_sigB (s d : List Nat) : ∀ i, (sigB s d i).length = 64 * i
  | 0 => rfl
  | i + 1 => by rw [sigB, List.length_append, List.length_append, length_sigB s d i, length_sigS, length_sigO]; omega
theorem lsign_calls (w0 : World) (s : List Nat) (A : Option Addr) (n c0 : Nat) (l : List Nat) (hs : s.length = 32) (R : Rd w0 1 A n (bv l)) (hn : n ≤ 1099511620000) :
    Ret Try.prog 29 [.agg (bv s).toArray, .slice A n c0] w0 fun v w' => ∃ k c, v = .slice (at_ k) 4096 c ∧ St w0 w' [] [k] [Rw 5 1 4096 c (bv (lsig s l))] := by
  refine enter Try.func29 rfl Try.ntmps29 (Nat.le_of_ble_eq_true rfl) ?_
  have S := St.init w0
  refine s_seq (s_plain ?_)
  refine p_does (d_boxA S rfl) rfl ?_
  rintro _ w ⟨b1, rfl, S⟩
  refine p_val (e_assign (v := .slice _ _ _) rfl) rfl ?_
  refine p_nil (x_then (s_seq (s_plain ?_)))
  refine p_val (e_move (v := .slice _ _ _) rfl) rfl ?_
  refine p_does (d_call Try.func33 nm33 rfl rfl (ldig_calls _ A n c0 l (S.rdOld R rfl) hn)) rfl ?_
  rintro _ w ⟨rfl, hB⟩
  have S := S.below hB
  refine p_does (d_allocA S zv29) rfl ?_
  rintro _ w ⟨b2, rfl, S⟩
  refine p_does (d_storeW S 0 rfl rfl (bv_one _) sz29 (by simp [length_lsec, length_lshown, length_ldig]) rfl rfl (by rfl)) rfl ?_
  intro _ w S
  refine p_nil (x_then (s_seq (s_plain ?_)))
  refine p_does (d_make0 S Try.underlying33 el5 4096 rfl rfl (by decide) (by decide)) rfl ?_
  rintro _ w ⟨b3, rfl, S⟩
  refine p_val (e_assign (v := .slice _ _ _) rfl) rfl ?_
  refine p_nil (x_then (s_seq (s_seq (s_plain ?_))))
  refine p_val (e_move (v := .int _ _) rfl) rfl ?_
  refine p_nil (x_then (s_block ?_))
  refine s_loop (α := Nat) (fun g f' w' => ∃ u k c m, f' = upds u [(2, .pointer (some ⟨b1, 0, none⟩)), (5, .pointer (some ⟨b2, 0, none⟩)), (6, .slice (at_ k) m c), (14, .int .i64 (g : Int))] ∧ g ≤ 64 ∧ m = 64 * g ∧ St w0 w' [] [k, some b2, some b1] [Rw 5 1 m c (bv (sigB s (ldig l) g)), Ex (bv (ldig l)).toArray 29, Ex (bv s).toArray 29]) (fun g => 64 - g) (0) (⟨_, _, _, _, upds_eq ⟨rfl, rfl, rfl, rfl, trivial⟩, by omega, rfl, S⟩) ?_
  rintro g f w ⟨u, k, c, m, rfl, hg, hm, S⟩
  refine s_seq (s_plain ?_)
  refine p_val (e_lss rfl rfl) rfl ?_
  refine p_nil (x_then (s_seq ?_))
  refine s_cond rfl (fun hc1 => ?_) (fun hc1 => ?_)
  · refine s_skip (x_then (s_seq (s_block (s_seq (s_plain ?_)))))
    refine p_val (e_move (v := .int _ _) rfl) rfl ?_
    refine p_val (e_assign (v := .int _ _) rfl) rfl ?_
    refine p_nil (x_then (s_seq (s_plain ?_)))
    refine p_val (e_loadEx rfl ag29 sz29 S 1 rfl rfl (by simp [length_ldig])) rfl ?_
    refine p_val (e_move (v := .int _ _) rfl) rfl ?_
    refine p_does (d_call Try.func84 nm84 rfl rfl (lbit_calls _ (ldig l) g (length_ldig l) (by omega))) rfl ?_
    rintro _ w ⟨rfl, hB⟩
    have S := S.below hB
    refine p_val (e_assign (v := .int _ _) rfl) rfl ?_
    refine p_nil (x_then (s_seq ?_))
    have hbl := lbit_lt (ldig l) g
    refine s_cut (fun f f' w' => ∃ u y9 y10, f' = upds u [(2, .pointer (some ⟨b1, 0, none⟩)), (5, .pointer (some ⟨b2, 0, none⟩)), (6, .slice (at_ k) m c), (7, .int .i64 (g : Int)), (9, .pointer (some ⟨y9, 0, none⟩)), (10, .pointer (some ⟨y10, 0, none⟩)), (14, .int .i64 (g : Int))] ∧ St w0 w' [] [some y9, some y10, k, some b2, some b1] [Ex (bv (sigS s (ldig l) g)).toArray 29, Ex (bv (sigO s (ldig l) g)).toArray 29, Rw 5 1 m c (bv (sigB s (ldig l) g)), Ex (bv (ldig l)).toArray 29, Ex (bv s).toArray 29]) ?_ ?_
    · refine s_drawT (.sq [(true, 0), (true, 1), (true, 2), (true, 4), (true, 5), (true, 6), (true, 7)] (.fork 3 (.fork 8 (.fork 9 (.fork 10 (.sq [(false, 11), (false, 12)] .stop) (.fork 11 (.sq [(false, 10), (false, 12)] .stop) .none_)) (.fork 10 (.fork 9 (.sq [(false, 11), (false, 12)] .stop) (.fork 11 (.sq [(false, 9), (false, 12)] .stop) .none_)) (.fork 11 (.fork 9 (.sq [(false, 10), (false, 12)] .stop) (.fork 10 (.sq [(false, 9), (false, 12)] .stop) .none_)) .none_))) (.fork 10 (.fork 8 (.fork 9 (.sq [(false, 11), (false, 12)] .stop) (.fork 11 (.sq [(false, 9), (false, 12)] .stop) .none_)) (.fork 11 (.sq [(false, 8), (false, 9), (false, 12)] .stop) .none_)) (.fork 11 (.fork 8 (.fork 9 (.sq [(false, 10), (false, 12)] .stop) (.fork 10 (.sq [(false, 9), (false, 12)] .stop) .none_)) (.fork 10 (.sq [(false, 8), (false, 9), (false, 12)] .stop) .none_)) .none_))) (.fork 10 (.fork 3 (.fork 8 (.fork 9 (.sq [(false, 11), (false, 12)] .stop) (.fork 11 (.sq [(false, 9), (false, 12)] .stop) .none_)) (.fork 11 (.sq [(false, 8), (false, 9), (false, 12)] .stop) .none_)) (.fork 11 (.sq [(false, 3), (false, 8), (false, 9), (false, 12)] .stop) .none_)) (.fork 11 (.fork 3 (.fork 8 (.fork 9 (.sq [(false, 10), (false, 12)] .stop) (.fork 10 (.sq [(false, 9), (false, 12)] .stop) .none_)) (.fork 10 (.sq [(false, 8), (false, 9), (false, 12)] .stop) .none_)) (.fork 10 (.sq [(false, 3), (false, 8), (false, 9), (false, 12)] .stop) .none_)) .none_)))) [13] [13] (fun w' => St w0 w' [] [some b1] [Ex (bv s).toArray 29]) mixed (by kernel_rfl) (by repeat (first | exact Calm.post _ _ _ | refine Calm.then ?_ _ | refine Calm.inB ?_ _)) ?_
      have S := S.drew
      have hS := S.pk [2] rfl
      refine t_sq ?_
      refine q_val (fun w hS => e_loadEx rfl ag29 sz29 hS 0 rfl rfl (by simp [hs])) rfl hS ?_
      refine q_val (fun w hS => e_move (v := .int _ _) rfl) rfl hS ?_
      refine q_val (fun w hS => e_move (v := .int _ _) rfl) rfl hS ?_
      refine q_val (fun w hS => e_loadEx rfl ag29 sz29 hS 0 rfl rfl (by simp [hs])) rfl hS ?_
      refine q_val (fun w hS => e_move (v := .int _ _) rfl) rfl hS ?_
      refine q_val (fun w hS => e_move (v := .int _ _) rfl) rfl hS ?_
      refine q_val (fun w hS => e_sub64 rfl rfl (by omega)) rfl hS ?_
      refine q_nil ?_
      refine t_fork ?_ ?_
      · refine q_does (d_call Try.func35 nm35 rfl rfl (lsec_calls _ s (g : Int) ((lbit (ldig l) g : Nat) : Int) hs)) rfl ?_
        rintro _ w ⟨rfl, hB⟩
        have S := S.below hB; have hS := S.pk [2] rfl; refine ⟨hS, ?_⟩
        refine q_nil ?_
        refine t_fork ?_ ?_
        · refine q_does (d_call Try.func35 nm35 rfl rfl (lsec_calls _ s (g : Int) (1 - ((lbit (ldig l) g : Nat) : Int)) hs)) rfl ?_
          rintro _ w ⟨rfl, hB⟩
          have S := S.below hB; have hS := S.pk [2] rfl; refine ⟨hS, ?_⟩
          refine q_nil ?_
          refine t_fork ?_ ?_
          · refine q_does (d_call Try.func36 nm36 rfl rfl (lshown_calls _ _ (length_lsec _ _ _))) rfl ?_
            rintro _ w ⟨rfl, hB⟩
            have S := S.below hB; have hS := S.pk [2] rfl; refine ⟨hS, ?_⟩
            refine q_nil ?_
            refine t_fork ?_ ?_
            · refine q_does (d_allocA S zv29) rfl ?_
              rintro _ w ⟨y9, rfl, S⟩; have hS := S.pk [3] rfl; refine ⟨hS, ?_⟩
              refine q_nil ?_
              refine t_sq ?_
              refine q_does (d_allocA S zv29) rfl ?_
              rintro _ w ⟨y10, rfl, S⟩; have hS := S.pk [4] rfl; refine ⟨hS, ?_⟩
              refine q_does (d_storeW S 1 rfl rfl (bv_one _) sz29 (by simp [length_lsec, length_lshown, length_ldig]) rfl rfl (by rfl)) rfl ?_
              intro _ w S; have hS := S.pk [4] rfl; refine ⟨hS, ?_⟩
              refine q_nil ?_
              refine t_stop ?_
              refine p_does (d_storeW S 0 rfl rfl (bv_one _) sz29 (by simp [length_lsec, length_lshown, length_ldig]) rfl rfl (by rfl)) rfl ?_
              intro _ w S
              exact p_nil (x_then ⟨_, rfl, _, y9, y10, upds_eq ⟨rfl, rfl, rfl, rfl, rfl, rfl, rfl, trivial⟩, S.pk [1, 0, 2, 3, 4] rfl⟩)
            · refine t_fork ?_ ?_
              · refine q_does (d_allocA S zv29) rfl ?_
                rintro _ w ⟨y10, rfl, S⟩; have hS := S.pk [3] rfl; refine ⟨hS, ?_⟩
                refine q_nil ?_
                refine t_sq ?_
                refine q_does (d_allocA S zv29) rfl ?_
                rintro _ w ⟨y9, rfl, S⟩; have hS := S.pk [4] rfl; refine ⟨hS, ?_⟩
                refine q_does (d_storeW S 0 rfl rfl (bv_one _) sz29 (by simp [length_lsec, length_lshown, length_ldig]) rfl rfl (by rfl)) rfl ?_
                intro _ w S; have hS := S.pk [4] rfl; refine ⟨hS, ?_⟩
                refine q_nil ?_
                refine t_stop ?_
                refine p_does (d_storeW S 1 rfl rfl (bv_one _) sz29 (by simp [length_lsec, length_lshown, length_ldig]) rfl rfl (by rfl)) rfl ?_
                intro _ w S
                exact p_nil (x_then ⟨_, rfl, _, y9, y10, upds_eq ⟨rfl, rfl, rfl, rfl, rfl, rfl, rfl, trivial⟩, S.pk [0, 1, 2, 3, 4] rfl⟩)
              · exact t_none
          · refine t_fork ?_ ?_
            · refine q_does (d_allocA S zv29) rfl ?_
              rintro _ w ⟨y9, rfl, S⟩; have hS := S.pk [3] rfl; refine ⟨hS, ?_⟩
              refine q_nil ?_
              refine t_fork ?_ ?_
              · refine q_does (d_call Try.func36 nm36 rfl rfl (lshown_calls _ _ (length_lsec _ _ _))) rfl ?_
                rintro _ w ⟨rfl, hB⟩
                have S := S.below hB; have hS := S.pk [3] rfl; refine ⟨hS, ?_⟩
                refine q_nil ?_
                refine t_sq ?_
                refine q_does (d_allocA S zv29) rfl ?_
                rintro _ w ⟨y10, rfl, S⟩; have hS := S.pk [4] rfl; refine ⟨hS, ?_⟩
                refine q_does (d_storeW S 1 rfl rfl (bv_one _) sz29 (by simp [length_lsec, length_lshown, length_ldig]) rfl rfl (by rfl)) rfl ?_
                intro _ w S; have hS := S.pk [4] rfl; refine ⟨hS, ?_⟩
                refine q_nil ?_
                refine t_stop ?_
                refine p_does (d_storeW S 0 rfl rfl (bv_one _) sz29 (by simp [length_lsec, length_lshown, length_ldig]) rfl rfl (by rfl)) rfl ?_
                intro _ w S
                exact p_nil (x_then ⟨_, rfl, _, y9, y10, upds_eq ⟨rfl, rfl, rfl, rfl, rfl, rfl, rfl, trivial⟩, S.pk [1, 0, 2, 3, 4] rfl⟩)
              · refine t_fork ?_ ?_
                · refine q_does (d_allocA S zv29) rfl ?_
                  rintro _ w ⟨y10, rfl, S⟩; have hS := S.pk [4] rfl; refine ⟨hS, ?_⟩
                  refine q_nil ?_
                  refine t_sq ?_
                  refine q_does (d_call Try.func36 nm36 rfl rfl (lshown_calls _ _ (length_lsec _ _ _))) rfl ?_
                  rintro _ w ⟨rfl, hB⟩
                  have S := S.below hB; have hS := S.pk [4] rfl; refine ⟨hS, ?_⟩
                  refine q_does (d_storeW S 1 rfl rfl (bv_one _) sz29 (by simp [length_lsec, length_lshown, length_ldig]) rfl rfl (by rfl)) rfl ?_
                  intro _ w S; have hS := S.pk [4] rfl; refine ⟨hS, ?_⟩
                  refine q_nil ?_
                  refine t_stop ?_
                  refine p_does (d_storeW S 0 rfl rfl (bv_one _) sz29 (by simp [length_lsec, length_lshown, length_ldig]) rfl rfl (by rfl)) rfl ?_
                  intro _ w S
                  exact p_nil (x_then ⟨_, rfl, _, y9, y10, upds_eq ⟨rfl, rfl, rfl, rfl, rfl, rfl, rfl, trivial⟩, S.pk [1, 0, 2, 3, 4] rfl⟩)
                · exact t_none
            · refine t_fork ?_ ?_
              · refine q_does (d_allocA S zv29) rfl ?_
                rintro _ w ⟨y10, rfl, S⟩; have hS := S.pk [3] rfl; refine ⟨hS, ?_⟩
                refine q_nil ?_
                refine t_fork ?_ ?_
                · refine q_does (d_call Try.func36 nm36 rfl rfl (lshown_calls _ _ (length_lsec _ _ _))) rfl ?_
                  rintro _ w ⟨rfl, hB⟩
                  have S := S.below hB; have hS := S.pk [3] rfl; refine ⟨hS, ?_⟩
                  refine q_nil ?_
                  refine t_sq ?_
                  refine q_does (d_allocA S zv29) rfl ?_
                  rintro _ w ⟨y9, rfl, S⟩; have hS := S.pk [4] rfl; refine ⟨hS, ?_⟩
                  refine q_does (d_storeW S 0 rfl rfl (bv_one _) sz29 (by simp [length_lsec, length_lshown, length_ldig]) rfl rfl (by rfl)) rfl ?_
                  intro _ w S; have hS := S.pk [4] rfl; refine ⟨hS, ?_⟩
                  refine q_nil ?_
                  refine t_stop ?_
                  refine p_does (d_storeW S 1 rfl rfl (bv_one _) sz29 (by simp [length_lsec, length_lshown, length_ldig]) rfl rfl (by rfl)) rfl ?_
                  intro _ w S
                  exact p_nil (x_then ⟨_, rfl, _, y9, y10, upds_eq ⟨rfl, rfl, rfl, rfl, rfl, rfl, rfl, trivial⟩, S.pk [0, 1, 2, 3, 4] rfl⟩)
                · refine t_fork ?_ ?_
                  · refine q_does (d_allocA S zv29) rfl ?_
                    rintro _ w ⟨y9, rfl, S⟩; have hS := S.pk [4] rfl; refine ⟨hS, ?_⟩
                    refine q_nil ?_
                    refine t_sq ?_
                    refine q_does (d_call Try.func36 nm36 rfl rfl (lshown_calls _ _ (length_lsec _ _ _))) rfl ?_
                    rintro _ w ⟨rfl, hB⟩
                    have S := S.below hB; have hS := S.pk [4] rfl; refine ⟨hS, ?_⟩
                    refine q_does (d_storeW S 0 rfl rfl (bv_one _) sz29 (by simp [length_lsec, length_lshown, length_ldig]) rfl rfl (by rfl)) rfl ?_
                    intro _ w S; have hS := S.pk [4] rfl; refine ⟨hS, ?_⟩
                    refine q_nil ?_
                    refine t_stop ?_
                    refine p_does (d_storeW S 1 rfl rfl (bv_one _) sz29 (by simp [length_lsec, length_lshown, length_ldig]) rfl rfl (by rfl)) rfl ?_
                    intro _ w S
                    exact p_nil (x_then ⟨_, rfl, _, y9, y10, upds_eq ⟨rfl, rfl, rfl, rfl, rfl, rfl, rfl, trivial⟩, S.pk [0, 1, 2, 3, 4] rfl⟩)
                  · exact t_none
              · exact t_none
        · refine t_fork ?_ ?_
          · refine q_does (d_allocA S zv29) rfl ?_
            rintro _ w ⟨y9, rfl, S⟩; have hS := S.pk [3] rfl; refine ⟨hS, ?_⟩
            refine q_nil ?_
            refine t_fork ?_ ?_
            · refine q_does (d_call Try.func35 nm35 rfl rfl (lsec_calls _ s (g : Int) (1 - ((lbit (ldig l) g : Nat) : Int)) hs)) rfl ?_
              rintro _ w ⟨rfl, hB⟩
              have S := S.below hB; have hS := S.pk [3] rfl; refine ⟨hS, ?_⟩
              refine q_nil ?_
              refine t_fork ?_ ?_
              · refine q_does (d_call Try.func36 nm36 rfl rfl (lshown_calls _ _ (length_lsec _ _ _))) rfl ?_
                rintro _ w ⟨rfl, hB⟩
                have S := S.below hB; have hS := S.pk [3] rfl; refine ⟨hS, ?_⟩
                refine q_nil ?_
                refine t_sq ?_
                refine q_does (d_allocA S zv29) rfl ?_
                rintro _ w ⟨y10, rfl, S⟩; have hS := S.pk [4] rfl; refine ⟨hS, ?_⟩
                refine q_does (d_storeW S 1 rfl rfl (bv_one _) sz29 (by simp [length_lsec, length_lshown, length_ldig]) rfl rfl (by rfl)) rfl ?_
                intro _ w S; have hS := S.pk [4] rfl; refine ⟨hS, ?_⟩
                refine q_nil ?_
                refine t_stop ?_
                refine p_does (d_storeW S 0 rfl rfl (bv_one _) sz29 (by simp [length_lsec, length_lshown, length_ldig]) rfl rfl (by rfl)) rfl ?_
                intro _ w S
                exact p_nil (x_then ⟨_, rfl, _, y9, y10, upds_eq ⟨rfl, rfl, rfl, rfl, rfl, rfl, rfl, trivial⟩, S.pk [1, 0, 2, 3, 4] rfl⟩)
              · refine t_fork ?_ ?_
                · refine q_does (d_allocA S zv29) rfl ?_
                  rintro _ w ⟨y10, rfl, S⟩; have hS := S.pk [4] rfl; refine ⟨hS, ?_⟩
                  refine q_nil ?_
                  refine t_sq ?_
                  refine q_does (d_call Try.func36 nm36 rfl rfl (lshown_calls _ _ (length_lsec _ _ _))) rfl ?_
                  rintro _ w ⟨rfl, hB⟩
                  have S := S.below hB; have hS := S.pk [4] rfl; refine ⟨hS, ?_⟩
                  refine q_does (d_storeW S 1 rfl rfl (bv_one _) sz29 (by simp [length_lsec, length_lshown, length_ldig]) rfl rfl (by rfl)) rfl ?_
                  intro _ w S; have hS := S.pk [4] rfl; refine ⟨hS, ?_⟩
                  refine q_nil ?_
                  refine t_stop ?_
                  refine p_does (d_storeW S 0 rfl rfl (bv_one _) sz29 (by simp [length_lsec, length_lshown, length_ldig]) rfl rfl (by rfl)) rfl ?_
                  intro _ w S
                  exact p_nil (x_then ⟨_, rfl, _, y9, y10, upds_eq ⟨rfl, rfl, rfl, rfl, rfl, rfl, rfl, trivial⟩, S.pk [1, 0, 2, 3, 4] rfl⟩)
                · exact t_none
            · refine t_fork ?_ ?_
              · refine q_does (d_allocA S zv29) rfl ?_
                rintro _ w ⟨y10, rfl, S⟩; have hS := S.pk [4] rfl; refine ⟨hS, ?_⟩
                refine q_nil ?_
                refine t_sq ?_
                refine q_does (d_call Try.func35 nm35 rfl rfl (lsec_calls _ s (g : Int) (1 - ((lbit (ldig l) g : Nat) : Int)) hs)) rfl ?_
                rintro _ w ⟨rfl, hB⟩
                have S := S.below hB; have hS := S.pk [4] rfl; refine ⟨hS, ?_⟩
                refine q_does (d_call Try.func36 nm36 rfl rfl (lshown_calls _ _ (length_lsec _ _ _))) rfl ?_
                rintro _ w ⟨rfl, hB⟩
                have S := S.below hB; have hS := S.pk [4] rfl; refine ⟨hS, ?_⟩
                refine q_does (d_storeW S 1 rfl rfl (bv_one _) sz29 (by simp [length_lsec, length_lshown, length_ldig]) rfl rfl (by rfl)) rfl ?_
                intro _ w S; have hS := S.pk [4] rfl; refine ⟨hS, ?_⟩
                refine q_nil ?_
                refine t_stop ?_
                refine p_does (d_storeW S 0 rfl rfl (bv_one _) sz29 (by simp [length_lsec, length_lshown, length_ldig]) rfl rfl (by rfl)) rfl ?_
                intro _ w S
                exact p_nil (x_then ⟨_, rfl, _, y9, y10, upds_eq ⟨rfl, rfl, rfl, rfl, rfl, rfl, rfl, trivial⟩, S.pk [1, 0, 2, 3, 4] rfl⟩)
              · exact t_none
          · refine t_fork ?_ ?_
            · refine q_does (d_allocA S zv29) rfl ?_
              rintro _ w ⟨y10, rfl, S⟩; have hS := S.pk [3] rfl; refine ⟨hS, ?_⟩
              refine q_nil ?_
              refine t_fork ?_ ?_
              · refine q_does (d_call Try.func35 nm35 rfl rfl (lsec_calls _ s (g : Int) (1 - ((lbit (ldig l) g : Nat) : Int)) hs)) rfl ?_
                rintro _ w ⟨rfl, hB⟩
                have S := S.below hB; have hS := S.pk [3] rfl; refine ⟨hS, ?_⟩
                refine q_nil ?_
                refine t_fork ?_ ?_
                · refine q_does (d_call Try.func36 nm36 rfl rfl (lshown_calls _ _ (length_lsec _ _ _))) rfl ?_
                  rintro _ w ⟨rfl, hB⟩
                  have S := S.below hB; have hS := S.pk [3] rfl; refine ⟨hS, ?_⟩
                  refine q_nil ?_
                  refine t_sq ?_
                  refine q_does (d_allocA S zv29) rfl ?_
                  rintro _ w ⟨y9, rfl, S⟩; have hS := S.pk [4] rfl; refine ⟨hS, ?_⟩
                  refine q_does (d_storeW S 0 rfl rfl (bv_one _) sz29 (by simp [length_lsec, length_lshown, length_ldig]) rfl rfl (by rfl)) rfl ?_
                  intro _ w S; have hS := S.pk [4] rfl; refine ⟨hS, ?_⟩
                  refine q_nil ?_
                  refine t_stop ?_
                  refine p_does (d_storeW S 1 rfl rfl (bv_one _) sz29 (by simp [length_lsec, length_lshown, length_ldig]) rfl rfl (by rfl)) rfl ?_
                  intro _ w S
                  exact p_nil (x_then ⟨_, rfl, _, y9, y10, upds_eq ⟨rfl, rfl, rfl, rfl, rfl, rfl, rfl, trivial⟩, S.pk [0, 1, 2, 3, 4] rfl⟩)
                · refine t_fork ?_ ?_
                  · refine q_does (d_allocA S zv29) rfl ?_
                    rintro _ w ⟨y9, rfl, S⟩; have hS := S.pk [4] rfl; refine ⟨hS, ?_⟩
                    refine q_nil ?_
                    refine t_sq ?_
                    refine q_does (d_call Try.func36 nm36 rfl rfl (lshown_calls _ _ (length_lsec _ _ _))) rfl ?_
                    rintro _ w ⟨rfl, hB⟩
                    have S := S.below hB; have hS := S.pk [4] rfl; refine ⟨hS, ?_⟩
                    refine q_does (d_storeW S 0 rfl rfl (bv_one _) sz29 (by simp [length_lsec, length_lshown, length_ldig]) rfl rfl (by rfl)) rfl ?_
                    intro _ w S; have hS := S.pk [4] rfl; refine ⟨hS, ?_⟩
                    refine q_nil ?_
                    refine t_stop ?_
                    refine p_does (d_storeW S 1 rfl rfl (bv_one _) sz29 (by simp [length_lsec, length_lshown, length_ldig]) rfl rfl (by rfl)) rfl ?_
                    intro _ w S
                    exact p_nil (x_then ⟨_, rfl, _, y9, y10, upds_eq ⟨rfl, rfl, rfl, rfl, rfl, rfl, rfl, trivial⟩, S.pk [0, 1, 2, 3, 4] rfl⟩)
                  · exact t_none
              · refine t_fork ?_ ?_
                · refine q_does (d_allocA S zv29) rfl ?_
                  rintro _ w ⟨y9, rfl, S⟩; have hS := S.pk [4] rfl; refine ⟨hS, ?_⟩
                  refine q_nil ?_
                  refine t_sq ?_
                  refine q_does (d_call Try.func35 nm35 rfl rfl (lsec_calls _ s (g : Int) (1 - ((lbit (ldig l) g : Nat) : Int)) hs)) rfl ?_
                  rintro _ w ⟨rfl, hB⟩
                  have S := S.below hB; have hS := S.pk [4] rfl; refine ⟨hS, ?_⟩
                  refine q_does (d_call Try.func36 nm36 rfl rfl (lshown_calls _ _ (length_lsec _ _ _))) rfl ?_
                  rintro _ w ⟨rfl, hB⟩
                  have S := S.below hB; have hS := S.pk [4] rfl; refine ⟨hS, ?_⟩
                  refine q_does (d_storeW S 0 rfl rfl (bv_one _) sz29 (by simp [length_lsec, length_lshown, length_ldig]) rfl rfl (by rfl)) rfl ?_
                  intro _ w S; have hS := S.pk [4] rfl; refine ⟨hS, ?_⟩
                  refine q_nil ?_
                  refine t_stop ?_
                  refine p_does (d_storeW S 1 rfl rfl (bv_one _) sz29 (by simp [length_lsec, length_lshown, length_ldig]) rfl rfl (by rfl)) rfl ?_
                  intro _ w S
                  exact p_nil (x_then ⟨_, rfl, _, y9, y10, upds_eq ⟨rfl, rfl, rfl, rfl, rfl, rfl, rfl, trivial⟩, S.pk [0, 1, 2, 3, 4] rfl⟩)
                · exact t_none
            · exact t_none
      · refine t_fork ?_ ?_
        · refine q_does (d_allocA S zv29) rfl ?_
          rintro _ w ⟨y9, rfl, S⟩; have hS := S.pk [3] rfl; refine ⟨hS, ?_⟩
          refine q_nil ?_
          refine t_fork ?_ ?_
          · refine q_does (d_call Try.func35 nm35 rfl rfl (lsec_calls _ s (g : Int) ((lbit (ldig l) g : Nat) : Int) hs)) rfl ?_
            rintro _ w ⟨rfl, hB⟩
            have S := S.below hB; have hS := S.pk [3] rfl; refine ⟨hS, ?_⟩
            refine q_nil ?_
            refine t_fork ?_ ?_
            · refine q_does (d_call Try.func35 nm35 rfl rfl (lsec_calls _ s (g : Int) (1 - ((lbit (ldig l) g : Nat) : Int)) hs)) rfl ?_
              rintro _ w ⟨rfl, hB⟩
              have S := S.below hB; have hS := S.pk [3] rfl; refine ⟨hS, ?_⟩
              refine q_nil ?_
              refine t_fork ?_ ?_
              · refine q_does (d_call Try.func36 nm36 rfl rfl (lshown_calls _ _ (length_lsec _ _ _))) rfl ?_
                rintro _ w ⟨rfl, hB⟩
                have S := S.below hB; have hS := S.pk [3] rfl; refine ⟨hS, ?_⟩
                refine q_nil ?_
                refine t_sq ?_
                refine q_does (d_allocA S zv29) rfl ?_
                rintro _ w ⟨y10, rfl, S⟩; have hS := S.pk [4] rfl; refine ⟨hS, ?_⟩
                refine q_does (d_storeW S 1 rfl rfl (bv_one _) sz29 (by simp [length_lsec, length_lshown, length_ldig]) rfl rfl (by rfl)) rfl ?_
                intro _ w S; have hS := S.pk [4] rfl; refine ⟨hS, ?_⟩
                refine q_nil ?_
                refine t_stop ?_
                refine p_does (d_storeW S 0 rfl rfl (bv_one _) sz29 (by simp [length_lsec, length_lshown, length_ldig]) rfl rfl (by rfl)) rfl ?_
                intro _ w S
                exact p_nil (x_then ⟨_, rfl, _, y9, y10, upds_eq ⟨rfl, rfl, rfl, rfl, rfl, rfl, rfl, trivial⟩, S.pk [1, 0, 2, 3, 4] rfl⟩)
              · refine t_fork ?_ ?_
                · refine q_does (d_allocA S zv29) rfl ?_
                  rintro _ w ⟨y10, rfl, S⟩; have hS := S.pk [4] rfl; refine ⟨hS, ?_⟩
                  refine q_nil ?_
                  refine t_sq ?_
                  refine q_does (d_call Try.func36 nm36 rfl rfl (lshown_calls _ _ (length_lsec _ _ _))) rfl ?_
                  rintro _ w ⟨rfl, hB⟩
                  have S := S.below hB; have hS := S.pk [4] rfl; refine ⟨hS, ?_⟩
                  refine q_does (d_storeW S 1 rfl rfl (bv_one _) sz29 (by simp [length_lsec, length_lshown, length_ldig]) rfl rfl (by rfl)) rfl ?_
                  intro _ w S; have hS := S.pk [4] rfl; refine ⟨hS, ?_⟩
                  refine q_nil ?_
                  refine t_stop ?_
                  refine p_does (d_storeW S 0 rfl rfl (bv_one _) sz29 (by simp [length_lsec, length_lshown, length_ldig]) rfl rfl (by rfl)) rfl ?_
                  intro _ w S
                  exact p_nil (x_then ⟨_, rfl, _, y9, y10, upds_eq ⟨rfl, rfl, rfl, rfl, rfl, rfl, rfl, trivial⟩, S.pk [1, 0, 2, 3, 4] rfl⟩)
                · exact t_none
            · refine t_fork ?_ ?_
              · refine q_does (d_allocA S zv29) rfl ?_
                rintro _ w ⟨y10, rfl, S⟩; have hS := S.pk [4] rfl; refine ⟨hS, ?_⟩
                refine q_nil ?_
                refine t_sq ?_
                refine q_does (d_call Try.func35 nm35 rfl rfl (lsec_calls _ s (g : Int) (1 - ((lbit (ldig l) g : Nat) : Int)) hs)) rfl ?_
                rintro _ w ⟨rfl, hB⟩
                have S := S.below hB; have hS := S.pk [4] rfl; refine ⟨hS, ?_⟩
                refine q_does (d_call Try.func36 nm36 rfl rfl (lshown_calls _ _ (length_lsec _ _ _))) rfl ?_
                rintro _ w ⟨rfl, hB⟩
                have S := S.below hB; have hS := S.pk [4] rfl; refine ⟨hS, ?_⟩
                refine q_does (d_storeW S 1 rfl rfl (bv_one _) sz29 (by simp [length_lsec, length_lshown, length_ldig]) rfl rfl (by rfl)) rfl ?_
                intro _ w S; have hS := S.pk [4] rfl; refine ⟨hS, ?_⟩
                refine q_nil ?_
                refine t_stop ?_
                refine p_does (d_storeW S 0 rfl rfl (bv_one _) sz29 (by simp [length_lsec, length_lshown, length_ldig]) rfl rfl (by rfl)) rfl ?_
                intro _ w S
                exact p_nil (x_then ⟨_, rfl, _, y9, y10, upds_eq ⟨rfl, rfl, rfl, rfl, rfl, rfl, rfl, trivial⟩, S.pk [1, 0, 2, 3, 4] rfl⟩)
              · exact t_none
          · refine t_fork ?_ ?_
            · refine q_does (d_allocA S zv29) rfl ?_
              rintro _ w ⟨y10, rfl, S⟩; have hS := S.pk [4] rfl; refine ⟨hS, ?_⟩
              refine q_nil ?_
              refine t_sq ?_
              refine q_does (d_call Try.func35 nm35 rfl rfl (lsec_calls _ s (g : Int) ((lbit (ldig l) g : Nat) : Int) hs)) rfl ?_
              rintro _ w ⟨rfl, hB⟩
              have S := S.below hB; have hS := S.pk [4] rfl; refine ⟨hS, ?_⟩
              refine q_does (d_call Try.func35 nm35 rfl rfl (lsec_calls _ s (g : Int) (1 - ((lbit (ldig l) g : Nat) : Int)) hs)) rfl ?_
              rintro _ w ⟨rfl, hB⟩
              have S := S.below hB; have hS := S.pk [4] rfl; refine ⟨hS, ?_⟩
              refine q_does (d_call Try.func36 nm36 rfl rfl (lshown_calls _ _ (length_lsec _ _ _))) rfl ?_
              rintro _ w ⟨rfl, hB⟩
              have S := S.below hB; have hS := S.pk [4] rfl; refine ⟨hS, ?_⟩
              refine q_does (d_storeW S 1 rfl rfl (bv_one _) sz29 (by simp [length_lsec, length_lshown, length_ldig]) rfl rfl (by rfl)) rfl ?_
              intro _ w S; have hS := S.pk [4] rfl; refine ⟨hS, ?_⟩
              refine q_nil ?_
              refine t_stop ?_
              refine p_does (d_storeW S 0 rfl rfl (bv_one _) sz29 (by simp [length_lsec, length_lshown, length_ldig]) rfl rfl (by rfl)) rfl ?_
              intro _ w S
              exact p_nil (x_then ⟨_, rfl, _, y9, y10, upds_eq ⟨rfl, rfl, rfl, rfl, rfl, rfl, rfl, trivial⟩, S.pk [1, 0, 2, 3, 4] rfl⟩)
            · exact t_none
        · refine t_fork ?_ ?_
          · refine q_does (d_allocA S zv29) rfl ?_
            rintro _ w ⟨y10, rfl, S⟩; have hS := S.pk [3] rfl; refine ⟨hS, ?_⟩
            refine q_nil ?_
            refine t_fork ?_ ?_
            · refine q_does (d_call Try.func35 nm35 rfl rfl (lsec_calls _ s (g : Int) ((lbit (ldig l) g : Nat) : Int) hs)) rfl ?_
              rintro _ w ⟨rfl, hB⟩
              have S := S.below hB; have hS := S.pk [3] rfl; refine ⟨hS, ?_⟩
              refine q_nil ?_
              refine t_fork ?_ ?_
              · refine q_does (d_call Try.func35 nm35 rfl rfl (lsec_calls _ s (g : Int) (1 - ((lbit (ldig l) g : Nat) : Int)) hs)) rfl ?_
                rintro _ w ⟨rfl, hB⟩
                have S := S.below hB; have hS := S.pk [3] rfl; refine ⟨hS, ?_⟩
                refine q_nil ?_
                refine t_fork ?_ ?_
                · refine q_does (d_call Try.func36 nm36 rfl rfl (lshown_calls _ _ (length_lsec _ _ _))) rfl ?_
                  rintro _ w ⟨rfl, hB⟩
                  have S := S.below hB; have hS := S.pk [3] rfl; refine ⟨hS, ?_⟩
                  refine q_nil ?_
                  refine t_sq ?_
                  refine q_does (d_allocA S zv29) rfl ?_
                  rintro _ w ⟨y9, rfl, S⟩; have hS := S.pk [4] rfl; refine ⟨hS, ?_⟩
                  refine q_does (d_storeW S 0 rfl rfl (bv_one _) sz29 (by simp [length_lsec, length_lshown, length_ldig]) rfl rfl (by rfl)) rfl ?_
                  intro _ w S; have hS := S.pk [4] rfl; refine ⟨hS, ?_⟩
                  refine q_nil ?_
                  refine t_stop ?_
                  refine p_does (d_storeW S 1 rfl rfl (bv_one _) sz29 (by simp [length_lsec, length_lshown, length_ldig]) rfl rfl (by rfl)) rfl ?_
                  intro _ w S
                  exact p_nil (x_then ⟨_, rfl, _, y9, y10, upds_eq ⟨rfl, rfl, rfl, rfl, rfl, rfl, rfl, trivial⟩, S.pk [0, 1, 2, 3, 4] rfl⟩)
                · refine t_fork ?_ ?_
                  · refine q_does (d_allocA S zv29) rfl ?_
                    rintro _ w ⟨y9, rfl, S⟩; have hS := S.pk [4] rfl; refine ⟨hS, ?_⟩
                    refine q_nil ?_
                    refine t_sq ?_
                    refine q_does (d_call Try.func36 nm36 rfl rfl (lshown_calls _ _ (length_lsec _ _ _))) rfl ?_
                    rintro _ w ⟨rfl, hB⟩
                    have S := S.below hB; have hS := S.pk [4] rfl; refine ⟨hS, ?_⟩
                    refine q_does (d_storeW S 0 rfl rfl (bv_one _) sz29 (by simp [length_lsec, length_lshown, length_ldig]) rfl rfl (by rfl)) rfl ?_
                    intro _ w S; have hS := S.pk [4] rfl; refine ⟨hS, ?_⟩
                    refine q_nil ?_
                    refine t_stop ?_
                    refine p_does (d_storeW S 1 rfl rfl (bv_one _) sz29 (by simp [length_lsec, length_lshown, length_ldig]) rfl rfl (by rfl)) rfl ?_
                    intro _ w S
                    exact p_nil (x_then ⟨_, rfl, _, y9, y10, upds_eq ⟨rfl, rfl, rfl, rfl, rfl, rfl, rfl, trivial⟩, S.pk [0, 1, 2, 3, 4] rfl⟩)
                  · exact t_none
              · refine t_fork ?_ ?_
                · refine q_does (d_allocA S zv29) rfl ?_
                  rintro _ w ⟨y9, rfl, S⟩; have hS := S.pk [4] rfl; refine ⟨hS, ?_⟩
                  refine q_nil ?_
                  refine t_sq ?_
                  refine q_does (d_call Try.func35 nm35 rfl rfl (lsec_calls _ s (g : Int) (1 - ((lbit (ldig l) g : Nat) : Int)) hs)) rfl ?_
                  rintro _ w ⟨rfl, hB⟩
                  have S := S.below hB; have hS := S.pk [4] rfl; refine ⟨hS, ?_⟩
                  refine q_does (d_call Try.func36 nm36 rfl rfl (lshown_calls _ _ (length_lsec _ _ _))) rfl ?_
                  rintro _ w ⟨rfl, hB⟩
                  have S := S.below hB; have hS := S.pk [4] rfl; refine ⟨hS, ?_⟩
                  refine q_does (d_storeW S 0 rfl rfl (bv_one _) sz29 (by simp [length_lsec, length_lshown, length_ldig]) rfl rfl (by rfl)) rfl ?_
                  intro _ w S; have hS := S.pk [4] rfl; refine ⟨hS, ?_⟩
                  refine q_nil ?_
                  refine t_stop ?_
                  refine p_does (d_storeW S 1 rfl rfl (bv_one _) sz29 (by simp [length_lsec, length_lshown, length_ldig]) rfl rfl (by rfl)) rfl ?_
                  intro _ w S
                  exact p_nil (x_then ⟨_, rfl, _, y9, y10, upds_eq ⟨rfl, rfl, rfl, rfl, rfl, rfl, rfl, trivial⟩, S.pk [0, 1, 2, 3, 4] rfl⟩)
                · exact t_none
            · refine t_fork ?_ ?_
              · refine q_does (d_allocA S zv29) rfl ?_
                rintro _ w ⟨y9, rfl, S⟩; have hS := S.pk [4] rfl; refine ⟨hS, ?_⟩
                refine q_nil ?_
                refine t_sq ?_
                refine q_does (d_call Try.func35 nm35 rfl rfl (lsec_calls _ s (g : Int) ((lbit (ldig l) g : Nat) : Int) hs)) rfl ?_
                rintro _ w ⟨rfl, hB⟩
                have S := S.below hB; have hS := S.pk [4] rfl; refine ⟨hS, ?_⟩
                refine q_does (d_call Try.func35 nm35 rfl rfl (lsec_calls _ s (g : Int) (1 - ((lbit (ldig l) g : Nat) : Int)) hs)) rfl ?_
                rintro _ w ⟨rfl, hB⟩
                have S := S.below hB; have hS := S.pk [4] rfl; refine ⟨hS, ?_⟩
                refine q_does (d_call Try.func36 nm36 rfl rfl (lshown_calls _ _ (length_lsec _ _ _))) rfl ?_
                rintro _ w ⟨rfl, hB⟩
                have S := S.below hB; have hS := S.pk [4] rfl; refine ⟨hS, ?_⟩
                refine q_does (d_storeW S 0 rfl rfl (bv_one _) sz29 (by simp [length_lsec, length_lshown, length_ldig]) rfl rfl (by rfl)) rfl ?_
                intro _ w S; have hS := S.pk [4] rfl; refine ⟨hS, ?_⟩
                refine q_nil ?_
                refine t_stop ?_
                refine p_does (d_storeW S 1 rfl rfl (bv_one _) sz29 (by simp [length_lsec, length_lshown, length_ldig]) rfl rfl (by rfl)) rfl ?_
                intro _ w S
                exact p_nil (x_then ⟨_, rfl, _, y9, y10, upds_eq ⟨rfl, rfl, rfl, rfl, rfl, rfl, rfl, trivial⟩, S.pk [0, 1, 2, 3, 4] rfl⟩)
              · exact t_none
          · exact t_none
    · rintro _ w ⟨u, y9, y10, rfl, S⟩
      refine x_then ?_
      refine s_draw [(true, 0), (true, 1), (true, 3), (false, 2), (false, 4), (true, 5)] (fun w' => True) mixed (by kernel_rfl) (by repeat (first | exact Calm.post _ _ _ | refine Calm.then ?_ _ | refine Calm.inB ?_ _)) ?_
      have S := S.drew
      have hS := trivial
      refine q_val (fun w hS => e_move (v := .slice _ _ _) rfl) rfl hS ?_
      refine q_val (fun w hS => e_sl_arr rfl Try.underlying29 sz5) rfl hS ?_
      refine q_val (fun w hS => e_sl_arr rfl Try.underlying29 sz5) rfl hS ?_
      refine q_does (d_append S 2 rfl rfl Try.underlying33 el5 rfl rfl (S.rdBytes 0 rfl rfl (length_sigS _ _ _)) ((bv_one _)) (by omega) (by unfold maxLen; omega)) rfl ?_
      rintro _ w ⟨k32, c32, rfl, S⟩; have hS := trivial; refine ⟨hS, ?_⟩
      refine q_does (d_append S 2 rfl rfl Try.underlying33 el5 rfl rfl (S.rdBytes 1 rfl rfl (length_sigO _ _ _)) ((bv_one _)) (by omega) (by unfold maxLen; omega)) rfl ?_
      rintro _ w ⟨k34, c34, rfl, S⟩; have hS := trivial; refine ⟨hS, ?_⟩
      refine q_val (fun w hS => e_assign (v := .slice _ _ _) rfl) rfl hS ?_
      refine q_nil (x_in (x_then (s_plain ?_)))
      refine p_val (e_add64 rfl rfl (by omega)) rfl ?_
      refine p_val (e_move (v := .int _ _) rfl) rfl ?_
      refine p_nil ?_
      refine x_round (g + 1) _ rfl ⟨_, _, _, _, upds_eq ⟨rfl, rfl, rfl, rfl, trivial⟩, by omega, by omega, St.asRw (S.pk [2, 3, 4] rfl) (by simp only [← bv_append]; rfl)⟩ (by omega)
  · refine s_exit (x_then_exit (x_then_exit (x_in_same (x_then (s_seq (s_plain ?_))))))
    refine p_val (e_move (v := .slice _ _ _) rfl) rfl ?_
    refine p_val (e_assign (v := .slice _ _ _) rfl) rfl ?_
    refine p_nil (x_then (s_ret ?_))
    exact post1 (v := .slice _ _ _) Try.results29 rfl (by obtain rfl : g = 64 := (by omega); subst hm; exact ⟨k, c, rfl, S.pk [0] rfl⟩)
end Go.Proofs.Ytdhfiamgmokfbaa
