/- Law 13: SecretShelves: the row. It proves the statement Rows.SecretShelvesSaid. -/
import Derived.Test.YtdhfiamgmokfbaaRows
import Derived.Test.YtdhfiamgmokfbaaLaw13
import Derived.Test.YtdhfiamgmokfbaaArgs
import Derived.WalkKit
import Derived.ProofKit
import Derived.OpenShut
import Derived.ShutString
import Derived.ChangeOld
import Derived.Below
namespace Go.Proofs.Ytdhfiamgmokfbaa.secretShelvesDone
open Go.ChangeShapes Go.WideShapes Go.ChangeAt Go.RowKit E
set_option linter.unusedVariables false

theorem own : ownKnob Try.prog.godebug = none := by kernel_rfl
theorem laidOut : laidOutB Try.prog = true := by kernel_rfl
theorem cS : Try.prog.cellsOf 29 = 32 := by kernel_rfl
theorem cO : Try.prog.cellsOf 31 = 65 := by kernel_rfl
theorem cB : Try.prog.cellsOf 5 = 1 := by kernel_rfl
theorem cb : Try.prog.cellsOf 4 = 1 := by kernel_rfl
section
variable {H : Type} {enc : TypeId × Value → H} {w : World} {base : Nat} {spare : Nat → Bool} {held : Bool}
theorem opensSum : Opens enc Try.prog w base spare held 29 bv (fun l => l.length = 32 ∧ Bytes l) := opens_sum Try.underlying29 Try.underlying5 cB cS
theorem opensOp : Opens enc Try.prog w base spare held 31 opc OpD.ok := by
  intro fuel cs y h
  obtain ⟨xs, n, _, _, hlen, hxl, hf⟩ := DataW.trod_struct Try.underlying31 h
  rw [cO] at hlen
  have g0 : DataW.trod enc Try.prog w base spare held n 29 ((cs.drop 0).take (Try.prog.cellsOf 29)) = xs[0]? := hf 0 _ rfl
  have g1 : DataW.trod enc Try.prog w base spare held n 29 ((cs.drop 32).take (Try.prog.cellsOf 29)) = xs[1]? := hf 1 _ rfl
  have g2 : DataW.trod enc Try.prog w base spare held n 4 ((cs.drop 64).take (Try.prog.cellsOf 4)) = xs[2]? := hf 2 _ rfl
  rw [cS] at g0 g1
  rw [cb] at g2
  match xs, hxl with
  | [y0, y1, y2], _ =>
    obtain ⟨a, ea, ha, _⟩ := opensSum _ _ _ g0
    obtain ⟨b, eb, hb, _⟩ := opensSum _ _ _ g1
    obtain ⟨o, eo, _⟩ := DataW.trod_bool Try.underlying4 g2
    refine ⟨⟨a, b, o⟩, ?_, ha, hb⟩
    show cs = bv a ++ bv b ++ [.bool o]
    rw [← ea, ← eb, ← eo]
    have e1 : (cs.drop 64).take 1 = cs.drop 64 := List.take_of_length_le (by rw [List.length_drop, hlen]; decide)
    rw [e1]
    have e2 : (cs.drop 32).take 32 ++ cs.drop 64 = cs.drop 32 := by
      have := List.take_append_drop 32 (cs.drop 32)
      rwa [List.drop_drop] at this
    rw [List.drop_zero, List.append_assoc, e2, List.take_append_drop]
end

set_option maxRecDepth 100000 in
theorem lifted (os : Os) (started : os.Started) (H : Type) (enc : TypeId × Value → H) :
    ReturnsInHanded {} Try.checked os 3 .any (Rows.secretShelvesSpec.pre6 enc Try.prog Try.f3 Rows.secretShelvesRow.domain false) (Rows.secretShelvesSpec.post enc Try.prog Try.f3 false true false false) := by
  refine returnsInHanded_of_change (C := Try.checked) own started (by kernel_rfl) Try.func3
    (ChangeSpec.witness6 (enc := enc) (C := Try.checked) false ⟨#[], #[.slice none 0 0, .int .i64 0, .int .i64 0], []⟩ 8 (by kernel_rfl) (by kernel_rfl) (by kernel_rfl) (by kernel_rfl)) ?_
  intro W base args ds gs before hval0 hW hcnd _
  have hval : ∀ (j : Nat) t v, Try.f3.params[j]? = some t → args[j]? = some v → Value.okWide Try.prog W .any base t v := hval0
  have hW' := hW
  obtain ⟨p, q, hA0, hV, rfl, hfz, hnd⟩ := hW
  have hA : DataW.TrodAll enc Try.prog W 0 (fun _ => true) true Try.f3.params.toList args.toList ds p := hA0
  rw [Try.params3] at hA hval
  obtain ⟨v0, vs0, d0, ds0, p0, q0, hargs, rfl, rfl, h0, r0⟩ := trodAll_cons hA
  obtain ⟨v1, vs1, d1, ds1, p1, q1, rfl, rfl, rfl, h1, r1⟩ := trodAll_cons r0
  obtain ⟨v2, vs2, d2, ds2, p2, q2, rfl, rfl, rfl, h2, r2⟩ := trodAll_cons r1
  obtain ⟨rfl, rfl, rfl⟩ := trodAll_nil r2
  obtain rfl : args = #[v0, v1, v2] := by cases args; simp_all
  obtain ⟨rfl, rfl⟩ := trodVars_none hV
  have k0 := h0
  have lt0 : ∀ x ∈ p0, x.block < W.heap.size := by obtain ⟨m, hm⟩ := k0; exact DataW.trod_lt m _ _ _ hm
  obtain ⟨A0, n0, c0, ops, rfl, e0, _, _, hops, R0⟩ := open_row (c := opc) (ok := OpD.ok) Try.underlying22 cO (hval 0 22 v0 rfl rfl) h0 (fun _ _ _ => opensOp) (fun _ h => opc_len h)
  subst e0
  obtain ⟨a1, rfl, rfl, rfl, w1⟩ := open_int Try.underlying3 (hval 1 3 v1 rfl rfl) h1
  obtain ⟨a2, rfl, rfl, rfl, w2⟩ := open_int Try.underlying3 (hval 2 3 v2 rfl rfl) h2
  clear hA0 hval0
  have walk : Calls Try.prog 3 #[.slice A0 ops.length c0, .int .i64 a1, .int .i64 a2] W fun e W' => e = .returned (.bool true) ∧ Below W.heap.size W W' :=
    Calls.mono (shelves_calls W A0 c0 ops hops R0 a1 a2) fun e W' ⟨v, he, hv, hb⟩ => ⟨by rw [he, hv], hb⟩
  refine walk.mono fun e W' ⟨he, bel⟩ => ?_
  subst he
  exact ⟨_, rfl, _, _, _, [], _, [], hW', trodAll_mk1 (shut_bool Try.underlying4 _), (trodAll_cons_mk (Below.trod laidOut (by kernel_rfl) (of_decide_eq_true (by kernel_rfl)) k0 bel lt0) (trodAll_cons_mk (shut_int Try.underlying3 w1) (trodAll_cons_mk (shut_int Try.underlying3 w2) trodAll_mk0))), rfl, bel.frame _, fun h => by cases h⟩

theorem over : Rows.secretShelvesRow.holds Try.pinned (OpenSpec.ofChange Rows.secretShelvesSpec) :=
  OpenClaim.holds_of_wide 3 Try.f3 rfl rfl rfl rfl rfl rfl rfl ⟨rfl, rfl, rfl, rfl, rfl⟩ rfl rfl rfl rfl rfl (by kernel_rfl) Try.func3 (by kernel_rfl)
    (of_decide_eq_true (by kernel_rfl)) (by unfold Func.isWrapper; first | (rw [if_pos (by decide +kernel)]; kernel_rfl) | (rw [if_neg (by decide +kernel)]; exact ⟨rfl, rfl⟩))
    (fun os started H enc _ => lifted os started H enc)

/-- The statement. -/
theorem proved : Rows.SecretShelvesSaid := over
#print axioms proved
end Go.Proofs.Ytdhfiamgmokfbaa.secretShelvesDone
