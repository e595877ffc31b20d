/- ReceiptBytes: the row. It proves the statement Rows.ReceiptBytesSaid. -/
import Derived.Test.YtcgcjklpilbndaaRows
import Derived.Test.YtcgcjklpilbndaaLaw12b
import Derived.Test.YtcgcjklpilbndaaOpR
import Derived.Test.YtcgcjklpilbndaaArgs2
import Derived.WalkKit
import Derived.ProofKit
import Derived.OpenShut
import Derived.ShutString
import Derived.ChangeOld
import Derived.Below
namespace Go.Proofs.Ytcgcjklpilbndaa.receiptBytesDone
open Go.ChangeShapes Go.WideShapes Go.ChangeAt Go.RowKit E
set_option linter.unusedVariables false

theorem rb_calls (W : World) (x : Rcp × Sl Nat) (A : Option Addr) (n c : Nat) (l : List Nat) (hx : (x.1.ok ∧ x.1.byt) ∧ x.2.xs.length = x.2.n ∧ x.2.n ≤ x.2.c ∧ x.2.c ≤ maxLen ∧ Bytes x.2.xs ∧ Rd W 1 x.2.A x.2.n (bv x.2.xs)) (R : Rd W 1 A n (bv l)) (hb : Bytes l) (hc : n ≤ c) :
    Ret Try.prog 6 [.agg (cat (sgdC x.1 x.2.A x.2.n x.2.c)).toArray, .slice A n c] W fun v w' => v = .bool true ∧ Below W.heap.size W w' := by
  obtain ⟨r, As, m, cs, s⟩ := x
  obtain ⟨⟨h1, h2⟩, h3, h4, h5, h6, h7⟩ := hx
  change s.length = m at h3
  subst h3
  exact rbytes_calls W r As cs s A n c l h1 h2 h7 h6 R hb hc

theorem own : ownKnob Try.prog.godebug = none := by kernel_rfl
theorem laidOut : laidOutB Try.prog = true := by kernel_rfl

set_option maxRecDepth 100000 in
theorem lifted (os : Os) (started : os.Started) (H : Type) (enc : TypeId × Value → H) :
    ReturnsInHanded {} Try.checked os 6 .any (Rows.receiptBytesSpec.pre6 enc Try.prog Try.f6 Rows.receiptBytesRow.domain false) (Rows.receiptBytesSpec.post enc Try.prog Try.f6 false true false false) := by
  refine returnsInHanded_of_change (C := Try.checked) own started (by kernel_rfl) Try.func6
    (ChangeSpec.witness6 (enc := enc) (C := Try.checked) false ⟨#[], #[.agg #[.int .i64 0, .int .i64 0, .int .i64 0, .int .u8 0, .int .u8 0, .int .u8 0, .int .u8 0, .int .u8 0, .int .u8 0, .int .u8 0, .int .u8 0, .int .u8 0, .int .u8 0, .int .u8 0, .int .u8 0, .int .u8 0, .int .u8 0, .int .u8 0, .int .u8 0, .int .u8 0, .int .u8 0, .int .u8 0, .int .u8 0, .int .u8 0, .int .u8 0, .int .u8 0, .int .u8 0, .int .u8 0, .int .u8 0, .int .u8 0, .int .u8 0, .int .u8 0, .int .u8 0, .int .u8 0, .int .u8 0, .int .u8 0, .int .u8 0, .int .u8 0, .int .u8 0, .int .u8 0, .int .u8 0, .int .u8 0, .int .u8 0, .int .u8 0, .int .u8 0, .int .u8 0, .int .u8 0, .int .u8 0, .int .u8 0, .int .u8 0, .int .u8 0, .int .u8 0, .int .u8 0, .int .u8 0, .int .u8 0, .int .u8 0, .int .u8 0, .int .u8 0, .int .u8 0, .int .u8 0, .int .u8 0, .int .u8 0, .int .u8 0, .int .u8 0, .int .u8 0, .int .u8 0, .int .u8 0, .slice none 0 0], .slice none 0 0], []⟩ 8 (by kernel_rfl) (by kernel_rfl) (by kernel_rfl) (by kernel_rfl)) ?_
  intro W base args ds gs before hval0 hW hcnd _
  have hval : ∀ (j : Nat) t v, Try.f6.params[j]? = some t → args[j]? = some v → Value.okWide Try.prog W .any base t v := hval0
  have hW' := hW
  obtain ⟨p, q, hA0, hV, rfl, hfz, hnd⟩ := hW
  have hA : DataW.TrodAll enc Try.prog W 0 (fun _ => true) true Try.f6.params.toList args.toList ds p := hA0
  rw [Try.params6] at hA hval
  obtain ⟨v0, vs0, d0, ds0, p0, q0, hargs, rfl, rfl, h0, r0⟩ := trodAll_cons hA
  obtain ⟨v1, vs1, d1, ds1, p1, q1, rfl, rfl, rfl, h1, r1⟩ := trodAll_cons r0
  obtain ⟨rfl, rfl, rfl⟩ := trodAll_nil r1
  obtain rfl : args = #[v0, v1] := by cases args; simp_all
  obtain ⟨rfl, rfl⟩ := trodVars_none hV
  have k0 := h0
  have lt0 : ∀ x ∈ p0, x.block < W.heap.size := by obtain ⟨m, hm⟩ := k0; exact DataW.trod_lt m _ _ _ hm
  obtain ⟨x0, rfl, hx0⟩ := open_val (c := (fun x : Rcp × Sl Nat ↦ cat (sgdC x.1 x.2.A x.2.n x.2.c))) (ok := (fun x ↦ (x.1.ok ∧ x.1.byt) ∧ x.2.xs.length = x.2.n ∧ x.2.n ≤ x.2.c ∧ x.2.c ≤ maxLen ∧ Bytes x.2.xs ∧ Rd W 1 x.2.A x.2.n (bv x.2.xs))) (r := .any) (b0 := base) ((okWide_struct Try.underlying54 (hval 0 54 v0 rfl rfl)).imp fun _ h => h.1) h0 (opensSgd)
  have k1 := h1
  have lt1 : ∀ x ∈ p1, x.block < W.heap.size := by obtain ⟨m, hm⟩ := k1; exact DataW.trod_lt m _ _ _ hm
  obtain ⟨A1, n1, c1, l1, rfl, e1, hc1, hm1, hb1, R1⟩ := open_bytes Try.underlying47 Try.underlying5 (by kernel_rfl) (hval 1 47 v1 rfl rfl) h1
  clear hA0 hval0
  have walk : Calls Try.prog 6 #[.agg ((fun x : Rcp × Sl Nat ↦ cat (sgdC x.1 x.2.A x.2.n x.2.c)) x0).toArray, .slice A1 n1 c1] W fun e W' => e = .returned (.bool true) ∧ Below W.heap.size W W' :=
    Calls.mono (rb_calls W x0 A1 n1 c1 l1 hx0 R1 hb1 hc1) fun e W' ⟨v, he, hv, hb⟩ => ⟨by rw [he, hv], hb⟩
  refine walk.mono fun e W' ⟨he, bel⟩ => ?_
  subst he
  exact ⟨_, rfl, _, _, _, [], _, [], hW', trodAll_mk1 (shut_bool Try.underlying4 _), (trodAll_cons_mk (Below.trod laidOut (by kernel_rfl) (of_decide_eq_true (by kernel_rfl)) k0 bel lt0) (trodAll_cons_mk (Below.trod laidOut (by kernel_rfl) (of_decide_eq_true (by kernel_rfl)) k1 bel lt1) trodAll_mk0)), rfl, bel.frame _, fun h => by cases h⟩

theorem over : Rows.receiptBytesRow.holds Try.pinned (OpenSpec.ofChange Rows.receiptBytesSpec) :=
  OpenClaim.holds_of_wide 6 Try.f6 rfl rfl rfl rfl rfl rfl rfl ⟨rfl, rfl, rfl, rfl, rfl⟩ rfl rfl rfl rfl rfl (by kernel_rfl) Try.func6 (by kernel_rfl)
    (of_decide_eq_true (by kernel_rfl)) (by unfold Func.isWrapper; first | (rw [if_pos (by decide +kernel)]; kernel_rfl) | (rw [if_neg (by decide +kernel)]; exact ⟨rfl, rfl⟩))
    (fun os started H enc _ => lifted os started H enc)

/-- The statement. -/
theorem proved : Rows.ReceiptBytesSaid := over
#print axioms proved
end Go.Proofs.Ytcgcjklpilbndaa.receiptBytesDone
