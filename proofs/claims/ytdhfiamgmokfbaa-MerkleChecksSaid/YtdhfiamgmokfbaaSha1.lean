/- SHA-256's small parts: rotations. It proves no statement by itself. -/
import Derived.Test.YtdhfiamgmokfbaaChecked
import Derived.Test.YtdhfiamgmokfbaaVal
import Derived.Test.YtdhfiamgmokfbaaConst
import Derived.Test.YtdhfiamgmokfbaaShaP
set_option linter.unusedSimpArgs false
set_option linter.unusedVariables false
namespace Go.Proofs.Ytdhfiamgmokfbaa
open Go Go.RowKit E

theorem rot_any (x s : Nat) (k : Int) (w : World) (h1 : bits .and .u64 (IntKind.u64.wrap k) 31 = (s : Int)) (h2 : 1 ≤ s ∧ s ≤ 31) :
    Ret Try.prog 110 [.int .u32 (x : Int), .int .i64 k] w fun v w' => v = .int .u32 (rotr (32 - s) x : Int) ∧ w' = w := by
  refine enter Try.func110 rfl Try.ntmps110 (Nat.le_of_ble_eq_true rfl) ?_
  refine s_seq (s_plain ?_)
  refine p_val (e_assign rfl) rfl ?_
  refine p_nil (x_then ?_)
  refine s_seq (s_plain ?_)
  refine p_val (e_move (v := .int .i64 k) rfl) rfl ?_
  refine p_val (e_conv (k := .i64) (a := k) rfl Try.underlying3 (by simp) Try.underlying120) rfl ?_
  refine p_val (e_int .and (v := .int .u64 (s : Int)) rfl rfl (fun w => congrArg (fun z => Result.ok (Value.int .u64 z) w) h1)) rfl ?_
  refine p_val (e_assign (v := .int .u64 (s : Int)) rfl) rfl ?_
  refine p_nil (x_then ?_)
  refine s_seq (s_plain ?_)
  refine p_val (e_move (v := .int .u32 (x : Int)) rfl) rfl ?_
  refine p_val (e_move (v := .int .u64 (s : Int)) rfl) rfl ?_
  refine p_val (e_shl32 s (m := x) rfl rfl (by omega)) rfl ?_
  refine p_val (e_move (v := .int .u32 (x : Int)) rfl) rfl ?_
  refine p_val (e_move (v := .int .u64 (s : Int)) rfl) rfl ?_
  refine p_val (e_int .sub (v := .int .u64 ((32 - s : Nat) : Int)) rfl rfl (fun w => ?_)) rfl ?_
  · have : IntKind.u64.wrap (32 - (s : Int)) = ((32 - s : Nat) : Int) := by
      rw [IntWalk.u64_in _ (by omega)]
      omega
    simp [binOp, Op.intArith, this]
  refine p_val (e_shr32 (32 - s) (m := x) rfl rfl (by omega)) rfl ?_
  refine p_val (e_or32 (m := shl32 x s) (n := shr32 x (32 - s)) rfl rfl) rfl ?_
  refine p_val (e_assign (v := .int .u32 (or32 (shl32 x s) (shr32 x (32 - s)) : Int)) rfl) rfl ?_
  refine p_nil (x_then ?_)
  refine s_ret (post1 Try.results110 (v := .int .u32 (rotr (32 - s) x : Int)) ?_ ⟨rfl, rfl⟩)
  have : 32 - (32 - s) = s := by omega
  unfold rotr
  rw [this]
  rfl
end Go.Proofs.Ytdhfiamgmokfbaa
