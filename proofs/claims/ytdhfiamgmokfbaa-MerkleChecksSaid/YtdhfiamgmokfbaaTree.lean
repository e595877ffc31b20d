/- Regions that draw their order where several operations with an effect may come up at once: a tree of orders. It proves no statement by itself. -/
import Derived.Test.YtdhfiamgmokfbaaEng
set_option linter.unusedSimpArgs false
set_option linter.unusedVariables false
namespace Go.Proofs.Ytdhfiamgmokfbaa.E
open Go Go.RowKit
inductive OT where
  | stop
  | sq (l : List (Bool × Nat)) (t : OT)
  | fork (i : Nat) (t : OT) (more : OT)
  | none_
  | re (t : OT)
def OT.heads : OT → List Nat
  | .fork i _ more => i :: more.heads
  | _ => []
def marks (listed : Array Bool) (l : List (Bool × Nat)) : Array Bool := l.foldl (fun x q => x.setIfInBounds q.2 true) listed
def orderS (ops : Array Oper) (Z : List Nat) : List (Bool × Nat) → Array Bool → Bool
  | [], _ => true
  | (true, i) :: rest, listed => Region.free .any ops listed i && (Region.ready .any ops listed).contains i && waitsB ops Z i && needS Z listed && !Z.contains i && orderS ops Z rest (listed.setIfInBounds i true)
  | (false, i) :: rest, listed => (Region.ready .any ops listed == [i]) && orderS ops Z rest (listed.setIfInBounds i true)
/-- 'inF': inside a fork, whose heads were looked at before -/
def checkT (ops : Array Oper) (Z tl : List Nat) : OT → Bool → Nat → Array Bool → Bool
  | .stop, _, fuel, listed => (fuel == tl.length) && tailB ops Z tl listed
  | .sq l t, _, fuel, listed => Nat.ble l.length fuel && orderS ops Z l listed && checkT ops Z tl t false (fuel - l.length) (marks listed l)
  | .fork i t more, inF, fuel, listed =>
    (inF || (Region.ready .any ops listed != [] && (Region.ready .any ops listed).all fun j => (OT.fork i t more).heads.contains j)) && Nat.ble 1 fuel && checkT ops Z tl t false (fuel - 1) (listed.setIfInBounds i true) && checkT ops Z tl more true fuel listed
  | .none_, inF, _, _ => inF
  | .re t, inF, fuel, listed => !inF && checkT ops Z tl t false fuel listed
def treeH (P : Program) (ops : Array Oper) (Q : Exit → Act → World → Prop) : (World → Prop) → (Act → World → Prop) → OT → Act → World → Prop
  | _, N, .stop, a, w => N a w
  | S, N, .sq l t, a, w => seqH P ops Q S (fun a w => treeH P ops Q S N t a w) (pick ops l) a w
  | S, N, .fork i t more, a, w => seqH P ops Q S (fun a w => treeH P ops Q S N t a w) (pick ops [(false, i)]) a w ∧ treeH P ops Q S N more a w
  | _, _, .none_, _, _ => True
  | S, N, .re t, a, w => ∃ S' : World → Prop, (∀ w, S' w → S w) ∧ treeH P ops Q S' N t a w
section
variable {P : Program} {ops : Array Oper} {Q : Exit → Act → World → Prop} {S : World → Prop} {N : Act → World → Prop}
theorem wpAnyZ_mono {Z : List Nat} {S S' : World → Prop} (h : ∀ w, S' w → S w) : ∀ (fuel : Nat) (listed : Array Bool) (a : Act) (w : World), wpAnyZ P ops Q S' Z fuel listed a w → wpAnyZ P ops Q S Z fuel listed a w
  | 0, _, _, _, H => H
  | fuel + 1, listed, a, w, H => ⟨H.1, fun i hi => wpOp_mono (fun a' w' h' => ⟨fun hn => h _ (h'.1 hn), wpAnyZ_mono h fuel _ a' w' h'.2⟩) (H.2 i hi)⟩
theorem seqN_sound {Z : List Nat} (hs : Region.noSelect ops = true) (hQ : Calm Q) {fuel : Nat} :
    ∀ (l : List (Bool × Nat)) (listed : Array Bool) (a : Act) (w : World), orderS ops Z l listed = true → (∀ a w, N a w → wpAnyZ P ops Q S Z fuel (marks listed l) a w) →
      seqH P ops Q S N (pick ops l) a w → wpAnyZ P ops Q S Z (l.length + fuel) listed a w := by
  intro l
  induction l with
  | nil =>
    intro listed a w hB hN h
    have := hN a w h
    simpa [marks] using this
  | cons x l ih =>
    obtain ⟨b, i⟩ := x
    intro listed a w hB hN h
    have hN' : ∀ a w, N a w → wpAnyZ P ops Q S Z fuel (marks (listed.setIfInBounds i true) l) a w := hN
    rw [show ((b, i) :: l).length + fuel = (l.length + fuel) + 1 by simp; omega]
    cases b with
    | true =>
      simp only [orderS, Bool.and_eq_true, Bool.not_eq_true'] at hB
      obtain ⟨⟨⟨⟨⟨hf, hr⟩, hwt⟩, hn⟩, hiZ⟩, hB'⟩ := hB
      have hi : ∃ o, ops[i]? = some o := by
        have := mem_ready.1 (by simpa using hr : i ∈ Region.ready .any ops listed)
        obtain ⟨_, o, ho, _⟩ := this
        exact ⟨o, ho⟩
      obtain ⟨o, ho⟩ := hi
      have hp : pick ops ((true, i) :: l) = (true, o) :: pick ops l := by simp [pick, ho]
      rw [hp] at h
      obtain ⟨v, hy, hS, hk⟩ := h
      exact wpAnyZ_first ho (Region.noSelect_spec hs) (fun c a' w' hq => hQ _ _ _ _ _ hq) hwt hiZ _ listed a w (Region.free_spec ho hf) (by simpa using hr) hn hy hS (ih _ _ _ hB' hN' hk)
    | false =>
      simp only [orderS, Bool.and_eq_true, beq_iff_eq] at hB
      obtain ⟨hr, hB'⟩ := hB
      have hi : ∃ o, ops[i]? = some o := by
        have := mem_ready.1 (by rw [hr]; simp : i ∈ Region.ready .any ops listed)
        obtain ⟨_, o, ho, _⟩ := this
        exact ⟨o, ho⟩
      obtain ⟨o, ho⟩ := hi
      have hp : pick ops ((false, i) :: l) = (false, o) :: pick ops l := by simp [pick, ho]
      rw [hp] at h
      refine ⟨fun h0 => (by rw [h0] at hr; cases hr), fun j hj => ?_⟩
      rw [hr] at hj
      obtain rfl : j = i := by simpa using hj
      unfold wpOp
      simp only [ho]
      unfold seqH at h
      split at h
      · rename_i hw
        rw [if_pos hw]
        exact .inl (Oper.wp_mono (fun a' w' ⟨h1, h2⟩ => ⟨fun _ => h1, ih _ _ _ hB' hN' h2⟩) h)
      · rename_i hw
        rw [if_neg hw]
        exact ⟨fun _ => h.1, ih _ _ _ hB' hN' h.2⟩
theorem one_sound {Z : List Nat} {i fuel : Nat} {listed : Array Bool} {a : Act} {w : World} (hr : i ∈ Region.ready .any ops listed) (hN : ∀ a w, N a w → wpAnyZ P ops Q S Z fuel (listed.setIfInBounds i true) a w)
    (h : seqH P ops Q S N (pick ops [(false, i)]) a w) : wpOp P ops Q i (fun a' w' => (needS Z (listed.setIfInBounds i true) = true → S w') ∧ wpAnyZ P ops Q S Z fuel (listed.setIfInBounds i true) a' w') a w := by
  obtain ⟨_, o, ho, _⟩ := mem_ready.1 hr
  have hp : pick ops [(false, i)] = [(false, o)] := by simp [pick, ho]
  rw [hp] at h
  unfold wpOp
  simp only [ho]
  unfold seqH at h
  split at h
  · rename_i hw
    rw [if_pos hw]
    exact .inl (Oper.wp_mono (fun a' w' ⟨h1, h2⟩ => ⟨fun _ => h1, hN _ _ h2⟩) h)
  · rename_i hw
    rw [if_neg hw]
    exact ⟨fun _ => h.1, hN _ _ h.2⟩
theorem tree_sound {Z tl : List Nat} (hs : Region.noSelect ops = true) (hQ : Calm Q) :
    ∀ (t : OT) (S : World → Prop),
      (∀ (fuel : Nat) (listed : Array Bool) (a : Act) (w : World), checkT ops Z tl t false fuel listed = true → treeH P ops Q S (wpList P ops Q (pickL ops tl)) t a w → wpAnyZ P ops Q S Z fuel listed a w) ∧
      (∀ (fuel : Nat) (listed : Array Bool) (a : Act) (w : World) (j : Nat), checkT ops Z tl t true (fuel + 1) listed = true → treeH P ops Q S (wpList P ops Q (pickL ops tl)) t a w → j ∈ t.heads → j ∈ Region.ready .any ops listed →
        wpOp P ops Q j (fun a' w' => (needS Z (listed.setIfInBounds j true) = true → S w') ∧ wpAnyZ P ops Q S Z fuel (listed.setIfInBounds j true) a' w') a w) := by
  intro t
  induction t with
  | re t ih =>
    intro S
    refine ⟨fun fuel listed a w hc h => ?_, fun fuel listed a w j hc h hj => by simp [OT.heads] at hj⟩
    simp only [checkT, Bool.not_false, Bool.true_and] at hc
    obtain ⟨S', hS, h⟩ := h
    exact wpAnyZ_mono hS _ _ _ _ ((ih S').1 fuel listed a w hc h)
  | stop =>
    intro S
    refine ⟨fun fuel listed a w hc h => ?_, fun fuel listed a w j hc h hj => by simp [OT.heads] at hj⟩
    simp only [checkT, Bool.and_eq_true, beq_iff_eq] at hc
    obtain ⟨rfl, hc⟩ := hc
    exact tail_sound tl listed a w hc h
  | sq l t ih =>
    intro S
    refine ⟨fun fuel listed a w hc h => ?_, fun fuel listed a w j hc h hj => by simp [OT.heads] at hj⟩
    simp only [checkT, Bool.and_eq_true, Nat.ble_eq] at hc
    obtain ⟨⟨hl, ho⟩, hc⟩ := hc
    have := seqN_sound (S := S) hs hQ (fuel := fuel - l.length) l listed a w ho (fun a w hN => (ih S).1 _ _ _ _ hc hN) h
    rwa [show l.length + (fuel - l.length) = fuel by omega] at this
  | none_ =>
    intro S
    refine ⟨fun fuel listed a w hc h => ?_, fun fuel listed a w j hc h hj => by simp [OT.heads] at hj⟩
    simp [checkT] at hc
  | fork i t more ih ihm =>
    intro S
    have part : ∀ (fuel : Nat) (listed : Array Bool) (a : Act) (w : World) (j : Nat), checkT ops Z tl (.fork i t more) true (fuel + 1) listed = true → treeH P ops Q S (wpList P ops Q (pickL ops tl)) (.fork i t more) a w → j ∈ (OT.fork i t more).heads → j ∈ Region.ready .any ops listed →
        wpOp P ops Q j (fun a' w' => (needS Z (listed.setIfInBounds j true) = true → S w') ∧ wpAnyZ P ops Q S Z fuel (listed.setIfInBounds j true) a' w') a w := by
      intro fuel listed a w j hc h hj hr
      simp only [checkT, Bool.and_eq_true, Bool.true_or, true_and, Nat.add_sub_cancel] at hc
      obtain ⟨⟨_, hc1⟩, hc2⟩ := hc
      obtain ⟨h1, h2⟩ := h
      by_cases hji : j = i
      · subst hji
        exact one_sound hr (fun a w hN => (ih S).1 _ _ _ _ hc1 hN) h1
      · have : j ∈ more.heads := by
          simp only [OT.heads, List.mem_cons] at hj
          exact hj.resolve_left hji
        exact (ihm S).2 fuel listed a w j hc2 h2 this hr
    refine ⟨fun fuel listed a w hc h => ?_, part⟩
    have hc0 := hc
    simp only [checkT, Bool.and_eq_true, Bool.false_or, bne_iff_ne, ne_eq, Nat.ble_eq] at hc
    obtain ⟨⟨⟨⟨hne, hall⟩, hf⟩, hc1⟩, hc2⟩ := hc
    obtain ⟨fuel, rfl⟩ : ∃ k, fuel = k + 1 := ⟨fuel - 1, by omega⟩
    refine ⟨fun h0 => absurd h0 hne, fun j hj => ?_⟩
    have hjh := List.all_eq_true.1 hall j hj
    exact part fuel listed a w j (by simp only [checkT, Bool.and_eq_true, Bool.true_or, true_and]; exact ⟨⟨by simp, hc1⟩, hc2⟩) h (by simpa using hjh) hj
variable {n : Nat} {f : Nat → Value} {w : World} {id : Nat} {l : List Oper}
theorem s_drawT (t : OT) (Z tl : List Nat) (S : World → Prop) (hm : P.follows .mixedOrders = true)
    (hB : (Region.noSelect l.toArray && checkT l.toArray Z tl t false l.length (Array.replicate l.length false)) = true) (hQ : Calm Q)
    (h : treeH P l.toArray Q S (wpList P l.toArray Q (pickL l.toArray tl)) t (F n f) w.drew) : (Code.region id l.toArray true).wp P Q (F n f) w := by
  simp only [Bool.and_eq_true] at hB
  refine wp_region_any hm (wpAny_of_Z (S := S) (Z := Z) _ _ _ _ ?_)
  have := (tree_sound hB.1 hQ t S).1 _ _ (F n f) w.drew hB.2 h
  simpa using this
/-- the steps of a tree's walk -/
theorem t_sq {l : List (Bool × Nat)} {t : OT} {a : Act} {w : World} (h : seqH P ops Q S (fun a w => treeH P ops Q S N t a w) (pick ops l) a w) : treeH P ops Q S N (.sq l t) a w := h
theorem t_fork {i : Nat} {t more : OT} {a : Act} {w : World} (h : seqH P ops Q S (fun a w => treeH P ops Q S N t a w) (pick ops [(false, i)]) a w) (hm : treeH P ops Q S N more a w) : treeH P ops Q S N (.fork i t more) a w := ⟨h, hm⟩
theorem t_none {a : Act} {w : World} : treeH P ops Q S N .none_ a w := trivial
theorem t_re {S' : World → Prop} {t : OT} {a : Act} {w : World} (h : ∀ w, S' w → S w) (hk : treeH P ops Q S' N t a w) : treeH P ops Q S N (.re t) a w := ⟨S', h, hk⟩
theorem t_stop {a : Act} {w : World} (h : N a w) : treeH P ops Q S N .stop a w := h
end
end Go.Proofs.Ytdhfiamgmokfbaa.E
