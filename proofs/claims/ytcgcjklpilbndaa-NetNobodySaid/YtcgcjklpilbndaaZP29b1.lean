/- Own texts, one behind the other: walks and laws that the statement needs. They prove no statement by themselves. -/
import Derived.OrdersHeld
import Derived.Tactics
import Derived.KernelRfl
import Derived.Below
import Derived.Laws.Rows
import Derived.Laws.CopyRow
import Derived.Laws.Tables
import Derived.Laws.MakeOwn
import Derived.Laws.OwnMore
import Derived.Maps.AppendAt
import Derived.Deep.Draws
import Derived.Laws.Small
import Derived.Laws.Slices
import Derived.Laws.Build
import Derived.IntWalk
import Derived.WideLaws
import Derived.ChangeKeysEq
/- An engine of small laws by which walks over this seat's program are typed: frames as functions, regions in a given order, loops with ghosts. It proves no statement by itself. -/
set_option linter.unusedSimpArgs false
set_option linter.unusedVariables false
namespace Go.Proofs.Ytcgcjklpilbndaa.E
open Go Go.RowKit

/-! ### Frames as functions -/
def upd (f : Nat → Value) (d : Nat) (v : Value) : Nat → Value := fun t => bif Nat.beq t d then v else f t
def F (n : Nat) (f : Nat → Value) : Act := { tmps := ((List.range n).map f).toArray, defers := [] }
def ev (n : Nat) (f : Nat → Value) : Operand → Value
  | .tmp t => bif Nat.blt t n then f t else undef
  | .const v => v
  | .global g => .pointer (some ⟨g, 0, none⟩)
  | .func k => .func (.func k) #[] #[]
def updo (f : Nat → Value) : Option Tmp → Value → Nat → Value
  | some d, v => upd f d v
  | none, _ => f
def ini (l : List Value) : Nat → Value := fun t => l.getD t undef

theorem upd_eq (f : Nat → Value) (d : Nat) (v : Value) (h : f d = v) : upd f d v = f := by
  funext t
  unfold upd
  cases hb : Nat.beq t d with
  | true => rw [Nat.eq_of_beq_eq_true hb, ← h]; rfl
  | false => rfl
theorem F_getElem? (n : Nat) (f : Nat → Value) (t : Nat) : (F n f).tmps[t]? = if t < n then some (f t) else none := by
  unfold F
  by_cases h : t < n
  · simp [h]
  · simp [h]
theorem F_getD (n : Nat) (f : Nat → Value) (t : Nat) : (F n f).tmps.getD t undef = bif Nat.blt t n then f t else undef := by
  rw [Array.getD_eq_getD_getElem?, F_getElem?]
  by_cases h : t < n
  · have : Nat.blt t n = true := by simpa [Nat.blt_eq] using h
    simp [h, this]
  · have : Nat.blt t n = false := by
      cases hb : Nat.blt t n with
      | false => rfl
      | true => exact absurd (by simpa [Nat.blt_eq] using hb) h
    simp [h, this]
theorem eval_F (n : Nat) (f : Nat → Value) : (F n f).eval = ev n f := by
  funext x
  cases x with
  | tmp t => exact F_getD n f t
  | const v => rfl
  | global g => rfl
  | func k => rfl
theorem put_F (n : Nat) (f : Nat → Value) (d : Option Tmp) (v : Value) : (F n f).put d v = F n (updo f d v) := by
  cases d with
  | none => rfl
  | some d =>
    unfold Act.put updo F
    simp only [Act.mk.injEq, and_true]
    apply Array.ext_getElem?
    intro t
    rw [Array.getElem?_setIfInBounds]
    simp only [List.getElem?_toArray, List.getElem?_map, List.getElem?_range', List.size_toArray, List.length_map, List.length_range]
    by_cases hd : d = t
    · subst hd
      by_cases h : d < n
      · simp [h, upd]
      · simp [h]
    · have hb : Nat.beq t d = false := by
        cases hb : Nat.beq t d with
        | false => rfl
        | true => exact absurd (Nat.eq_of_beq_eq_true hb).symm hd
      by_cases h : t < n
      · simp [h, hd, upd, hb]
      · simp [h, hd]

/-! ### Contracts -/
def Ret (P : Program) (k : FuncId) (args : List Value) (w : World) (R : Value → World → Prop) : Prop :=
  Calls P k args.toArray w fun e w' => ∃ v, e = .returned v ∧ R v w'
theorem Ret.mono {P : Program} {k : FuncId} {args : List Value} {w : World} {R R' : Value → World → Prop} (h : Ret P k args w R) (hr : ∀ v w', R v w' → R' v w') : Ret P k args w R' :=
  Calls.mono h fun _ _ ⟨v, he, hv⟩ => ⟨v, he, hr v _ hv⟩
def Post (P : Program) (fn : Func) (R : Value → World → Prop) : Exit → Act → World → Prop := bodyPost P fn fun e w' => ∃ v, e = .returned v ∧ R v w'

theorem enter {P : Program} {k : FuncId} {fn : Func} {c : Code} {l : List Value} {w : World} {R : Value → World → Prop} {n : Nat}
    (hf : P.funcs[k]? = some fn) (hb : fn.body = some c) (hn : fn.ntmps = n) (hl : l.length ≤ n) (h : c.wp P (Post P fn R) (F n (ini l)) w) : Ret P k l w R := by
  refine calls_of_wp hf hb ?_
  have e : ({ tmps := l.toArray ++ Array.replicate (fn.ntmps - l.toArray.size) undef, defers := [] } : Act) = F n (ini l) := by
    unfold F ini
    simp only [Act.mk.injEq, and_true]
    apply Array.ext_getElem?
    intro t
    rw [Array.getElem?_append]
    simp only [List.size_toArray, List.getElem?_toArray, Array.getElem?_replicate, List.getElem?_map, List.getElem?_range', hn]
    by_cases h1 : t < l.length
    · have : t < n := by omega
      simp [h1, this, List.getD_eq_getElem?_getD]
    · by_cases h2 : t < n
      · have : t - l.length < n - l.length := by omega
        simp [h1, h2, this, List.getD_eq_getElem?_getD, List.getElem?_eq_none (Nat.le_of_not_lt h1)]
      · have : ¬ t - l.length < n - l.length := by omega
        simp [h1, h2, this]
  rw [e]
  exact h

section
variable {P : Program} {fn : Func} {R : Value → World → Prop} {n : Nat} {f : Nat → Value} {w : World}
/-- the results are read: one temporary, two, three, none -/
theorem post1 {t : Tmp} {v : Value} (h : fn.results = #[.tmp t]) (hv : ev n f (.tmp t) = v) (hR : R v w) : Post P fn R .ret (F n f) w :=
  bodyPost_ret (v := v) (by rw [results_tmp h, F_getD]; exact congrArg (Result.ok · w) hv) rfl ⟨v, rfl, hR⟩
theorem post2 {t u : Tmp} {v x : Value} (h : fn.results = #[.tmp t, .tmp u]) (hv : ev n f (.tmp t) = v) (hx : ev n f (.tmp u) = x) (hR : R (.tuple #[v, x]) w) : Post P fn R .ret (F n f) w :=
  bodyPost_ret (v := .tuple #[v, x]) (by rw [results_tmp2 h, F_getD, F_getD, ← hv, ← hx]; rfl) rfl ⟨_, rfl, hR⟩
theorem post0 (h : fn.results = #[]) (hR : R (.tuple #[]) w) : Post P fn R .ret (F n f) w :=
  bodyPost_ret (v := .tuple #[]) (results_none h _ _ _) rfl ⟨_, rfl, hR⟩
/-- any results, by an equation on their reading -/
theorem postAny {v : Value} (hr : (results fn (F n f).tmps).run P w = .ok v w) (hR : R v w) : Post P fn R .ret (F n f) w := bodyPost_ret hr rfl ⟨v, rfl, hR⟩
theorem post_end (h : Post P fn R .ret (F n f) w) : Post P fn R .normal (F n f) w := h
end

/-! ### Code -/
section
variable {P : Program} {Q : Exit → Act → World → Prop} {K : Act → World → Prop} {a : Act} {w : World} {c x y : Code} {id : Nat}
theorem s_seq (h : x.wp P (Exit.then (y.wp P Q) Q) a w) : (Code.seq x y).wp P Q a w := wp_seq h
theorem s_ret (h : Q .ret a w) : Code.ret.wp P Q a w := wp_ret h
theorem s_skip (h : Q .normal a w) : Code.skip.wp P Q a w := wp_skip h
theorem s_exit (h : Q (.exit id) a w) : (Code.exit id).wp P Q a w := wp_exit h
theorem s_block (h : c.wp P (Exit.inBlock id Q) a w) : (Code.block id c).wp P Q a w := wp_block h
theorem x_then (h : K a w) : Exit.then K Q .normal a w := h
theorem x_then_ret (h : Q .ret a w) : Exit.then K Q .ret a w := h
theorem x_then_exit (h : Q (.exit id) a w) : Exit.then K Q (.exit id) a w := h
theorem x_in (h : Q .normal a w) : Exit.inBlock id Q .normal a w := h
theorem x_in_ret (h : Q .ret a w) : Exit.inBlock id Q .ret a w := h
theorem x_in_same (h : Q .normal a w) : Exit.inBlock id Q (.exit id) a w := by simpa [Exit.inBlock] using h
theorem x_in_other {id' : Nat} (hne : Nat.beq id' id = false) (h : Q (.exit id') a w) : Exit.inBlock id Q (.exit id') a w := by
  have : id' ≠ id := fun e => by subst e; simp at hne
  simpa [Exit.inBlock, this] using h
variable {n : Nat} {f : Nat → Value}
theorem s_cond {o : Operand} {p : Prop} [Decidable p] (hc : ev n f o = .bool (decide p)) (ht : p → x.wp P Q (F n f) w) (hf : ¬ p → y.wp P Q (F n f) w) : (Code.cond o x y).wp P Q (F n f) w :=
  wp_cond_split (t := decide p) (by rw [eval_F]; exact hc) (fun h => ht (of_decide_eq_true h)) (fun h => hf (of_decide_eq_false h))
theorem s_condb {o : Operand} {b : Bool} (hc : ev n f o = .bool b) (ht : b = true → x.wp P Q (F n f) w) (hf : b = false → y.wp P Q (F n f) w) : (Code.cond o x y).wp P Q (F n f) w :=
  wp_cond_split (t := b) (by rw [eval_F]; exact hc) ht hf
theorem s_cond_t {o : Operand} (hc : ev n f o = .bool true) (h : x.wp P Q (F n f) w) : (Code.cond o x y).wp P Q (F n f) w := wp_cond_true (by rw [eval_F]; exact hc) h
theorem s_cond_f {o : Operand} (hc : ev n f o = .bool false) (h : y.wp P Q (F n f) w) : (Code.cond o x y).wp P Q (F n f) w := wp_cond_false (by rw [eval_F]; exact hc) h

/-- A loop, its invariant over a ghost, its measure on the ghost. -/
theorem s_loop {α : Type} (J : α → (Nat → Value) → World → Prop) (μ : α → Nat) (g0 : α) (h0 : J g0 f w)
    (round : ∀ (g : α) (f : Nat → Value) (w : World), J g f w → c.wp P (Exit.then (fun a' w' => ∃ (g' : α) (f' : Nat → Value), a' = F n f' ∧ J g' f' w' ∧ μ g' < μ g) Q) (F n f) w) :
    (Code.loop c).wp P Q (F n f) w := by
  intro b k cs
  have key : ∀ m (g : α) f w, μ g = m → J g f w →
      ∃ e a' w', Q e a' w' ∧ Arrives P (lone (b.at (F n f) (.code c :: .inLoop c :: k)) cs w) b k cs e a' w' := by
    intro m
    induction m using Nat.strongRecOn with
    | _ m ih =>
      intro g f w hm hI
      obtain ⟨e, a₁, w₁, hq, harr⟩ := round g f w hI b (.inLoop c :: k) cs
      cases e with
      | normal =>
        obtain ⟨g', f', rfl, hI₁, hlt⟩ := hq
        obtain ⟨e₂, a₂, w₂, hq₂, harr₂⟩ := ih (μ g') (hm ▸ hlt) g' f' w₁ rfl hI₁
        exact ⟨e₂, a₂, w₂, hq₂, .of_steps (Steps.trans harr (.one step_inLoop)) harr₂⟩
      | exit id => exact ⟨_, a₁, w₁, hq, .pass (x := .inLoop c) rfl (fun _ _ => .inl (by simp)) harr⟩
      | goto l => exact ⟨_, a₁, w₁, hq, .pass (x := .inLoop c) rfl (fun _ _ => .inl (by simp)) harr⟩
      | ret => exact ⟨_, a₁, w₁, hq, .pass (x := .inLoop c) rfl (fun _ _ => .inl (by simp)) harr⟩
      | panic ch => exact ⟨_, a₁, w₁, hq, .pass (x := .inLoop c) rfl (fun _ _ => .inl (by simp)) harr⟩
      | outgrown => exact ⟨_, a₁, w₁, hq, .pass (x := .inLoop c) rfl (fun _ _ => .inl (by simp)) harr⟩
  obtain ⟨e, a', w', hq, harr⟩ := key _ g0 f w rfl h0
  exact ⟨e, a', w', hq, .of_steps (.one step_loop) harr⟩
/-- A round's end. -/
theorem x_round {α : Type} {J : α → (Nat → Value) → World → Prop} {μ : α → Nat} {g : α} (g' : α) (f' : Nat → Value) (e : f = f') (h : J g' f' w) (hm : μ g' < μ g) :
    Exit.then (fun a' w' => ∃ (g' : α) (f' : Nat → Value), a' = F n f' ∧ J g' f' w' ∧ μ g' < μ g) Q .normal (F n f) w := ⟨g', f', by rw [e], h, hm⟩
/-- What is left may be forgotten: a weaker reading of the frame and the world, behind which the walk goes on. -/
theorem s_forget {R : (Nat → Value) → World → Prop} (h : R f w) (hk : ∀ f w, R f w → c.wp P Q (F n f) w) : c.wp P Q (F n f) w := hk f w h
end

/-! ### Regions: in a given order. 'seqH': those marked true are taken first by a law (they only read); those marked false are carried out where they stand; S holds all the while. A region that draws no order: all false, S idle. -/
section
variable {P : Program} {ops : Array Oper} {Q : Exit → Act → World → Prop} {S : World → Prop}
def seqH (P : Program) (ops : Array Oper) (Q : Exit → Act → World → Prop) (S : World → Prop) (N : Act → World → Prop) : List (Bool × Oper) → Act → World → Prop
  | [], a, w => N a w
  | (true, o) :: rest, a, w => ∃ v, YieldsIf P ops S o v a ∧ S w ∧ seqH P ops Q S N rest (a.put o.dst v) w
  | (false, o) :: rest, a, w => if Region.wanted o (yielded ops a.tmps) then o.wp P a w (fun a' w' => S w' ∧ seqH P ops Q S N rest a' w') Q else S w ∧ seqH P ops Q S N rest (a.put o.dst undef) w

/-- S need hold only till the first of the closing operations Z -/
def needS (Z : List Nat) (listed : Array Bool) : Bool := Z.all fun z => !listed.getD z false
/-- every closing operation waits for 'i' -/
def waitsB (ops : Array Oper) (Z : List Nat) (i : Nat) : Bool := Z.all fun z => z != i && (match ops[z]? with | some oz => oz.after.any (fun e => Region.binds .any e && e.on == i) | none => false)
/-- the order is one of a region's: at each place what is marked true may be taken first, what is marked false is the only one that may come up; behind the closing operations one by one -/
def tailB (ops : Array Oper) (Z : List Nat) : List Nat → Array Bool → Bool
  | [], listed => Region.ready .any ops listed == []
  | i :: rest, listed => (Region.ready .any ops listed == [i]) && !needS Z (listed.setIfInBounds i true) && tailB ops Z rest (listed.setIfInBounds i true)
def orderB (ops : Array Oper) (Z : List Nat) (tl : List Nat) : List (Bool × Nat) → Array Bool → Bool
  | [], listed => tailB ops Z tl listed
  | (true, i) :: rest, listed => Region.free .any ops listed i && (Region.ready .any ops listed).contains i && waitsB ops Z i && needS Z listed && !Z.contains i && orderB ops Z tl rest (listed.setIfInBounds i true)
  | (false, i) :: rest, listed => (Region.ready .any ops listed == [i]) && orderB ops Z tl rest (listed.setIfInBounds i true)
def pick (ops : Array Oper) (l : List (Bool × Nat)) : List (Bool × Oper) := l.filterMap fun (b, i) => (ops[i]?).map fun o => (b, o)
def pickL (ops : Array Oper) (l : List Nat) : List Oper := l.filterMap fun i => ops[i]?

/-- the post lets a panic's frame be anything -/
def Calm (Q : Exit → Act → World → Prop) : Prop := ∀ (a : Act) (d : Option Tmp) (v : Value) c w, Q (.panic c) (a.put d v) w → Q (.panic c) a w
theorem Calm.then {Q : Exit → Act → World → Prop} (h : Calm Q) (K : Act → World → Prop) : Calm (Exit.then K Q) := fun a d v c w hq => h a d v c w hq
theorem Calm.inB {Q : Exit → Act → World → Prop} (h : Calm Q) (id : Nat) : Calm (Exit.inBlock id Q) := fun a d v c w hq => h a d v c w hq
theorem Calm.post (P : Program) (fn : Func) (R : Value → World → Prop) : Calm (Post P fn R) := fun a d v c w hq => by
  obtain ⟨h0, h⟩ := hq
  have : (a.put d v).defers = a.defers := by cases d <;> rfl
  exact ⟨by rw [← this]; exact h0, h⟩

/-- whatever order is picked, and S holds behind each operation till a closing one -/
def wpAnyZ (P : Program) (ops : Array Oper) (Q : Exit → Act → World → Prop) (S : World → Prop) (Z : List Nat) : Nat → Array Bool → Act → World → Prop
  | 0, listed, a, w => Region.ready .any ops listed = [] ∧ Q .normal a w
  | fuel + 1, listed, a, w =>
    (Region.ready .any ops listed = [] → Q .normal a w) ∧
    ∀ i ∈ Region.ready .any ops listed, wpOp P ops Q i (fun a' w' => (needS Z (listed.setIfInBounds i true) = true → S w') ∧ wpAnyZ P ops Q S Z fuel (listed.setIfInBounds i true) a' w') a w
theorem wpAny_of_Z {Z : List Nat} : ∀ (fuel : Nat) (listed : Array Bool) (a : Act) (w : World), wpAnyZ P ops Q S Z fuel listed a w → wpAny P .any ops Q fuel listed a w
  | 0, _, _, _, h => h
  | fuel + 1, _, _, _, h => ⟨h.1, fun i hi => wpOp_mono (fun a' w' h' => wpAny_of_Z fuel _ a' w' h'.2) (h.2 i hi)⟩
theorem needS_set {Z : List Nat} {listed : Array Bool} {i : Nat} (h : needS Z listed = true) (hi : Z.contains i = false) : needS Z (listed.setIfInBounds i true) = true := by
  unfold needS at *
  rw [List.all_eq_true] at *
  intro z hz
  have hzi : i ≠ z := by
    rintro rfl
    rw [List.contains_iff_mem.2 hz] at hi
    cases hi
  have := h z hz
  rwa [getD_set_ne false hzi]
theorem wpAnyZ_first {Z : List Nat} {i : Nat} {oi : Oper} {v : Value} (hi : ops[i]? = some oi) (hsel : ∀ (j : Nat) (o : Oper) cs b, ops[j]? = some o → o.op ≠ .select cs b)
    (hQ : ∀ c a w, Q (.panic c) (a.put oi.dst v) w → Q (.panic c) a w) (hZ : waitsB ops Z i = true) (hiZ : Z.contains i = false) :
    ∀ (fuel : Nat) (listed : Array Bool) (a : Act) (w : World),
      (∀ j oj, ops[j]? = some oj → j ≠ i → listed.getD j true = false → (∀ e ∈ oj.after, Region.binds .any e = true → e.on ≠ i) → oi.apart ops oj = true) →
      i ∈ Region.ready .any ops listed → needS Z listed = true → YieldsIf P ops S oi v a → S w →
      wpAnyZ P ops Q S Z fuel (listed.setIfInBounds i true) (a.put oi.dst v) w → wpAnyZ P ops Q S Z (fuel + 1) listed a w := by
  intro fuel
  induction fuel with
  | zero =>
    intro listed a w _ hr hn hy hS H
    refine ⟨fun h => (by rw [h] at hr; cases hr), fun j hj => ?_⟩
    by_cases hji : j = i
    · subst hji; exact hy.wpOp hi hS ⟨fun _ => hS, H⟩
    · have := ready_mono hj hji
      rw [H.1] at this
      cases this
  | succ fuel ih =>
    intro listed a w hfree hr hn hy hS H
    refine ⟨fun h => (by rw [h] at hr; cases hr), fun j hj => ?_⟩
    by_cases hji : j = i
    · subst hji; exact hy.wpOp hi hS ⟨fun _ => hS, H⟩
    · have h1 := H.2 j (ready_mono hj hji)
      obtain ⟨hjun, oj, hoj, hall⟩ := mem_ready.1 hj
      have hnot : ∀ e ∈ oj.after, Region.binds .any e = true → e.on ≠ i := fun e he hb heq => by
        have h1 := hall e he hb
        have h0 := (mem_ready.1 hr).1
        rw [heq] at h1
        rcases Nat.lt_or_ge i listed.size with h' | h'
        · simp [h'] at h0 h1; rw [h0] at h1; cases h1
        · simp [Array.getElem?_eq_none h'] at h1
      have hjZ : Z.contains j = false := by
        cases hc : Z.contains j with
        | false => rfl
        | true =>
          have hm := List.contains_iff_mem.1 hc
          have := List.all_eq_true.1 hZ j hm
          rw [hoj] at this
          simp only [Bool.and_eq_true] at this
          obtain ⟨e, he, hb⟩ := Array.any_eq_true'.1 this.2
          simp only [Bool.and_eq_true, beq_iff_eq] at hb
          exact absurd hb.2 (hnot e he hb.1)
      have hn' := needS_set hn hjZ
      have hn2 := needS_set (needS_set hn hiZ) hjZ
      have h2 := wpOp_putIf hoj (hfree j oj hoj hji hjun hnot) (fun cs b => hsel i oi cs b hi) (fun cs b => hsel j oj cs b hoj) hQ hy h1
      have hfree' : ∀ k ok, ops[k]? = some ok → k ≠ i → (listed.setIfInBounds j true).getD k true = false →
          (∀ e ∈ ok.after, Region.binds .any e = true → e.on ≠ i) → oi.apart ops ok = true := fun k ok hk hki hun hno => by
        refine hfree k ok hk hki ?_ hno
        by_cases hjk : j = k
        · subst hjk; exact hjun
        · rw [getD_set_ne true hjk] at hun; exact hun
      refine wpOp_mono (fun a' w' h3 => ⟨fun _ => h3.2.1 hn2, ih (listed.setIfInBounds j true) a' w' hfree' (ready_mono hr (Ne.symm hji)) hn' h3.1 (h3.2.1 hn2) ?_⟩) h2
      rw [Array.setIfInBounds_comm _ _ hji]
      exact h3.2.2

theorem tail_sound {Z : List Nat} : ∀ (l : List Nat) (listed : Array Bool) (a : Act) (w : World), tailB ops Z l listed = true →
      wpList P ops Q (pickL ops l) a w → wpAnyZ P ops Q S Z l.length listed a w := by
  intro l
  induction l with
  | nil =>
    intro listed a w hB h
    simp only [tailB, beq_iff_eq] at hB
    exact ⟨hB, h⟩
  | cons i l ih =>
    intro listed a w hB h
    simp only [tailB, Bool.and_eq_true, beq_iff_eq, Bool.not_eq_true'] at hB
    obtain ⟨⟨hr, hn⟩, hB'⟩ := hB
    have hi : ∃ o, ops[i]? = some o := by
      have := mem_ready.1 (by rw [hr]; simp : i ∈ Region.ready .any ops listed)
      obtain ⟨_, o, ho, _⟩ := this
      exact ⟨o, ho⟩
    obtain ⟨o, ho⟩ := hi
    have hp : pickL ops (i :: l) = o :: pickL ops l := by simp [pickL, ho]
    rw [hp] at h
    refine ⟨fun h0 => (by rw [h0] at hr; cases hr), fun j hj => ?_⟩
    rw [hr] at hj
    obtain rfl : j = i := by simpa using hj
    unfold wpOp
    simp only [ho]
    unfold wpList at h
    split at h
    · rename_i hw
      rw [if_pos hw]
      rcases h with h | h
      · exact .inl (Oper.wp_mono (fun a' w' h2 => ⟨fun hx => (by rw [hn] at hx; cases hx), ih _ _ _ hB' h2⟩) h)
      · exact .inr h
    · rename_i hw
      rw [if_neg hw]
      exact ⟨fun hx => (by rw [hn] at hx; cases hx), ih _ _ _ hB' h⟩

theorem seqH_sound {Z tl : List Nat} (hs : Region.noSelect ops = true) (hQ : Calm Q) :
    ∀ (l : List (Bool × Nat)) (listed : Array Bool) (a : Act) (w : World), orderB ops Z tl l listed = true →
      seqH P ops Q S (wpList P ops Q (pickL ops tl)) (pick ops l) a w → wpAnyZ P ops Q S Z (l.length + tl.length) listed a w := by
  intro l
  induction l with
  | nil =>
    intro listed a w hB h
    have := tail_sound (S := S) (Z := Z) tl listed a w hB h
    simpa using this
  | cons x l ih =>
    obtain ⟨b, i⟩ := x
    intro listed a w hB h
    rw [show ((b, i) :: l).length + tl.length = (l.length + tl.length) + 1 by simp; omega]
    cases b with
    | true =>
      simp only [orderB, Bool.and_eq_true, Bool.not_eq_true'] at hB
      obtain ⟨⟨⟨⟨⟨hf, hr⟩, hwt⟩, hn⟩, hiZ⟩, hB'⟩ := hB
      have hi : ∃ o, ops[i]? = some o := by
        have := mem_ready.1 (by simpa using hr : i ∈ Region.ready .any ops listed)
        obtain ⟨_, o, ho, _⟩ := this
        exact ⟨o, ho⟩
      obtain ⟨o, ho⟩ := hi
      have hp : pick ops ((true, i) :: l) = (true, o) :: pick ops l := by simp [pick, ho]
      rw [hp] at h
      obtain ⟨v, hy, hS, hk⟩ := h
      exact wpAnyZ_first ho (Region.noSelect_spec hs) (fun c a' w' hq => hQ _ _ _ _ _ hq) hwt hiZ _ listed a w (Region.free_spec ho hf) (by simpa using hr) hn hy hS (ih _ _ _ hB' hk)
    | false =>
      simp only [orderB, Bool.and_eq_true, beq_iff_eq] at hB
      obtain ⟨hr, hB'⟩ := hB
      have hi : ∃ o, ops[i]? = some o := by
        have := mem_ready.1 (by rw [hr]; simp : i ∈ Region.ready .any ops listed)
        obtain ⟨_, o, ho, _⟩ := this
        exact ⟨o, ho⟩
      obtain ⟨o, ho⟩ := hi
      have hp : pick ops ((false, i) :: l) = (false, o) :: pick ops l := by simp [pick, ho]
      rw [hp] at h
      refine ⟨fun h0 => (by rw [h0] at hr; cases hr), fun j hj => ?_⟩
      rw [hr] at hj
      obtain rfl : j = i := by simpa using hj
      unfold wpOp
      simp only [ho]
      unfold seqH at h
      split at h
      · rename_i hw
        rw [if_pos hw]
        exact .inl (Oper.wp_mono (fun a' w' ⟨h1, h2⟩ => ⟨fun _ => h1, ih _ _ _ hB' h2⟩) h)
      · rename_i hw
        rw [if_neg hw]
        exact ⟨fun _ => h.1, ih _ _ _ hB' h.2⟩

variable {n : Nat} {f : Nat → Value} {w : World} {id : Nat} {l : List Oper}
/-- A region that draws its order, its operations in an order that serves for all; 'Z': those behind which S need not hold, 'tl': from the first of those on. -/
theorem s_drawZ (order : List (Bool × Nat)) (Z tl : List Nat) (S : World → Prop) (hm : P.follows .mixedOrders = true)
    (hB : (Region.noSelect l.toArray && orderB l.toArray Z tl order (Array.replicate l.length false) && order.length + tl.length == l.length) = true) (hQ : Calm Q)
    (h : seqH P l.toArray Q S (wpList P l.toArray Q (pickL l.toArray tl)) (pick l.toArray order) (F n f) w.drew) : (Code.region id l.toArray true).wp P Q (F n f) w := by
  simp only [Bool.and_eq_true, beq_iff_eq] at hB
  obtain ⟨⟨hs, ho⟩, hl⟩ := hB
  refine wp_region_any hm (wpAny_of_Z (S := S) (Z := Z) _ _ _ _ ?_)
  have := seqH_sound (S := S) hs hQ order _ (F n f) w.drew ho h
  rw [hl] at this
  simpa using this
/-- A region that draws its order, its operations in an order that serves for all. -/
theorem s_draw (order : List (Bool × Nat)) (S : World → Prop) (hm : P.follows .mixedOrders = true)
    (hB : (Region.noSelect l.toArray && orderB l.toArray [] [] order (Array.replicate l.length false) && order.length + 0 == l.length) = true) (hQ : Calm Q)
    (h : seqH P l.toArray Q S (Q .normal) (pick l.toArray order) (F n f) w.drew) : (Code.region id l.toArray true).wp P Q (F n f) w := s_drawZ order [] [] S hm hB hQ h
/-- A region that draws no order. -/
theorem s_plain (h : wpList P l.toArray Q l (F n f) w) : (Code.region id l.toArray false).wp P Q (F n f) w := wp_region_lit h

variable {o : Oper} {rest : List Oper} {rest' : List (Bool × Oper)} {v : Value} {w' : World}
theorem p_nil (h : Q .normal (F n f) w) : wpList P ops Q [] (F n f) w := h
variable {N : Act → World → Prop}
theorem q_nil (h : N (F n f) w) : seqH P ops Q S N [] (F n f) w := h
/-- an operation that yields a value -/
theorem p_valO (hr : (execOp (ev n f) o).run P w = .ok (.value v) w') (hg : o.guard = none) (h : wpList P ops Q rest (F n (updo f o.dst v)) w') : wpList P ops Q (o :: rest) (F n f) w :=
  wpList_plain hg fun K hK => by
    unfold Oper.wp
    rw [eval_F, hr]
    exact hK _ _ (by rw [put_F]; exact h)
theorem p_skipO (hr : (execOp (ev n f) o).run P w = .ok .skip w') (hg : o.guard = none) (h : wpList P ops Q rest (F n (updo f o.dst undef)) w') : wpList P ops Q (o :: rest) (F n f) w :=
  wpList_plain hg fun K hK => by
    unfold Oper.wp
    rw [eval_F, hr]
    exact hK _ _ (by rw [put_F]; exact h)
theorem p_callO {k : FuncId} {args : List Value} {R : Value → World → Prop} (hr : (execOp (ev n f) o).run P w = .ok (.enter k args.toArray) w) (hg : o.guard = none) (hc : Ret P k args w R)
    (h : ∀ v w', R v w' → wpList P ops Q rest (F n (updo f o.dst v)) w') : wpList P ops Q (o :: rest) (F n f) w :=
  wpList_plain hg fun K hK => by
    unfold Oper.wp
    rw [eval_F, hr]
    refine Calls.mono hc fun e w' ⟨v, he, hv⟩ => ?_
    subst he
    exact hK _ _ (by rw [put_F]; exact h v w' hv)
theorem q_valO (hr : ∀ w, S w → (execOp (ev n f) o).run P w = .ok (.value v) w) (hg : o.guard = none) (hS : S w) (h : seqH P ops Q S N rest' (F n (updo f o.dst v)) w) : seqH P ops Q S N ((true, o) :: rest') (F n f) w :=
  ⟨v, .inl ⟨by simp [Region.wanted, hg], fun w hw => by rw [eval_F]; exact hr w hw⟩, hS, by rw [put_F]; exact h⟩
theorem q_effO (hr : (execOp (ev n f) o).run P w = .ok (.value v) w') (hg : o.guard = none) (hS : S w') (h : seqH P ops Q S N rest' (F n (updo f o.dst v)) w') : seqH P ops Q S N ((false, o) :: rest') (F n f) w := by
  unfold seqH
  rw [if_pos (by simp [Region.wanted, hg])]
  unfold Oper.wp
  rw [eval_F, hr]
  exact ⟨hS, by rw [put_F]; exact h⟩
theorem q_skipO (hr : (execOp (ev n f) o).run P w = .ok .skip w') (hg : o.guard = none) (hS : S w') (h : seqH P ops Q S N rest' (F n (updo f o.dst undef)) w') : seqH P ops Q S N ((false, o) :: rest') (F n f) w := by
  unfold seqH
  rw [if_pos (by simp [Region.wanted, hg])]
  unfold Oper.wp
  rw [eval_F, hr]
  exact ⟨hS, by rw [put_F]; exact h⟩
theorem q_callO {k : FuncId} {args : List Value} {R : Value → World → Prop} (hr : (execOp (ev n f) o).run P w = .ok (.enter k args.toArray) w) (hg : o.guard = none) (hc : Ret P k args w R)
    (h : ∀ v w', R v w' → S w' ∧ seqH P ops Q S N rest' (F n (updo f o.dst v)) w') : seqH P ops Q S N ((false, o) :: rest') (F n f) w := by
  unfold seqH
  rw [if_pos (by simp [Region.wanted, hg])]
  unfold Oper.wp
  rw [eval_F, hr]
  refine Calls.mono hc fun e w' ⟨v, he, hv⟩ => ?_
  subst he
  have := h v w' hv
  exact ⟨this.1, by rw [put_F]; exact this.2⟩

/-! guards -/
theorem yielded_F {j d : Nat} {oj : Oper} {b : Bool} (hj : ops[j]? = some oj) (hd : oj.dst = some d) (hv : ev n f (.tmp d) = .bool b) : yielded ops (F n f).tmps j = some b := by
  have h2 := F_getD n f d
  have h1 := F_getElem? n f d
  change (bif Nat.blt d n then f d else undef) = .bool b at hv
  unfold yielded
  simp only [hj, hd, Option.bind_some]
  by_cases h : d < n
  · have hb : Nat.blt d n = true := by simpa [Nat.blt_eq] using h
    rw [hb] at hv
    simp only [cond_true] at hv
    rw [h1, if_pos h, hv]
  · have hb : Nat.blt d n = false := by
      cases hb : Nat.blt d n with
      | false => rfl
      | true => exact absurd (by simpa [Nat.blt_eq] using hb) h
    rw [hb] at hv
    cases hv
theorem wanted_F {j d : Nat} {oj : Oper} {b want : Bool} (hg : o.guard = some (j, want)) (hj : ops[j]? = some oj) (hd : oj.dst = some d) (hv : ev n f (.tmp d) = .bool b) :
    Region.wanted o (yielded ops (F n f).tmps) = (b == want) := by
  unfold Region.wanted
  rw [hg]
  simp only [yielded_F hj hd hv]
  cases b <;> cases want <;> rfl
variable {j d : Nat} {oj : Oper} {want : Bool}
/-- the guard says no: nothing is done -/
theorem p_noO {b : Bool} (hg : o.guard = some (j, want)) (hj : ops[j]? = some oj) (hd : oj.dst = some d) (hv : ev n f (.tmp d) = .bool b) (hb : (b == want) = false) (h : wpList P ops Q rest (F n (updo f o.dst undef)) w) : wpList P ops Q (o :: rest) (F n f) w :=
  wpList_step fun K hK => by
    rw [wanted_F hg hj hd hv, hb, if_neg (by simp)]
    exact hK _ _ (by rw [put_F]; exact h)
theorem q_noO {b c : Bool} (hg : o.guard = some (j, want)) (hj : ops[j]? = some oj) (hd : oj.dst = some d) (hv : ev n f (.tmp d) = .bool b) (hb : (b == want) = false) (hS : S w) (h : seqH P ops Q S N rest' (F n (updo f o.dst undef)) w) : seqH P ops Q S N ((c, o) :: rest') (F n f) w := by
  cases c with
  | true => exact ⟨undef, .inr ⟨by rw [wanted_F hg hj hd hv, hb], rfl⟩, hS, by rw [put_F]; exact h⟩
  | false =>
    unfold seqH
    rw [wanted_F hg hj hd hv, hb, if_neg (by simp)]
    exact ⟨hS, by rw [put_F]; exact h⟩
/-- the guard says yes -/
theorem pg_valO {b : Bool} (hg : o.guard = some (j, want)) (hj : ops[j]? = some oj) (hd : oj.dst = some d) (hv : ev n f (.tmp d) = .bool b) (hb : (b == want) = true) (hr : (execOp (ev n f) o).run P w = .ok (.value v) w') (h : wpList P ops Q rest (F n (updo f o.dst v)) w') : wpList P ops Q (o :: rest) (F n f) w :=
  wpList_step fun K hK => by
    rw [wanted_F hg hj hd hv, hb, if_pos rfl]
    unfold Oper.wp
    rw [eval_F, hr]
    exact hK _ _ (by rw [put_F]; exact h)
theorem pg_callO {b : Bool} {k : FuncId} {args : List Value} {R : Value → World → Prop} (hg : o.guard = some (j, want)) (hj : ops[j]? = some oj) (hd : oj.dst = some d) (hv : ev n f (.tmp d) = .bool b) (hb : (b == want) = true) (hr : (execOp (ev n f) o).run P w = .ok (.enter k args.toArray) w) (hc : Ret P k args w R)
    (h : ∀ v w', R v w' → wpList P ops Q rest (F n (updo f o.dst v)) w') : wpList P ops Q (o :: rest) (F n f) w :=
  wpList_step fun K hK => by
    rw [wanted_F hg hj hd hv, hb, if_pos rfl]
    unfold Oper.wp
    rw [eval_F, hr]
    refine Calls.mono hc fun e w' ⟨v, he, hv⟩ => ?_
    subst he
    exact hK _ _ (by rw [put_F]; exact h v w' hv)
theorem qg_valO {b : Bool} (hg : o.guard = some (j, want)) (hj : ops[j]? = some oj) (hd : oj.dst = some d) (hv : ev n f (.tmp d) = .bool b) (hb : (b == want) = true) (hr : ∀ w, S w → (execOp (ev n f) o).run P w = .ok (.value v) w) (hS : S w) (h : seqH P ops Q S N rest' (F n (updo f o.dst v)) w) : seqH P ops Q S N ((true, o) :: rest') (F n f) w :=
  ⟨v, .inl ⟨by rw [wanted_F hg hj hd hv, hb], fun w hw => by rw [eval_F]; exact hr w hw⟩, hS, by rw [put_F]; exact h⟩
theorem qg_effO {b : Bool} (hg : o.guard = some (j, want)) (hj : ops[j]? = some oj) (hd : oj.dst = some d) (hv : ev n f (.tmp d) = .bool b) (hb : (b == want) = true) (hr : (execOp (ev n f) o).run P w = .ok (.value v) w') (hS : S w') (h : seqH P ops Q S N rest' (F n (updo f o.dst v)) w') : seqH P ops Q S N ((false, o) :: rest') (F n f) w := by
  unfold seqH
  rw [wanted_F hg hj hd hv, hb, if_pos rfl]
  unfold Oper.wp
  rw [eval_F, hr]
  exact ⟨hS, by rw [put_F]; exact h⟩
theorem qg_callO {b : Bool} {k : FuncId} {args : List Value} {R : Value → World → Prop} (hg : o.guard = some (j, want)) (hj : ops[j]? = some oj) (hd : oj.dst = some d) (hv : ev n f (.tmp d) = .bool b) (hb : (b == want) = true) (hr : (execOp (ev n f) o).run P w = .ok (.enter k args.toArray) w) (hc : Ret P k args w R)
    (h : ∀ v w', R v w' → S w' ∧ seqH P ops Q S N rest' (F n (updo f o.dst v)) w') : seqH P ops Q S N ((false, o) :: rest') (F n f) w := by
  unfold seqH
  rw [wanted_F hg hj hd hv, hb, if_pos rfl]
  unfold Oper.wp
  rw [eval_F, hr]
  refine Calls.mono hc fun e w' ⟨v, he, hv⟩ => ?_
  subst he
  have := h v w' hv
  exact ⟨this.1, by rw [put_F]; exact this.2⟩
variable {d0 : Option Tmp} {op0 : Op} {ty0 : TypeId} {ps0 : String} {af0 : Array Edge} {g0 : Option (Nat × Bool)}
theorem p_val (hr : (execOp (ev n f) { dst := d0, op := op0, type := ty0, pos := ps0, after := af0, guard := g0 }).run P w = .ok (.value v) w') (hg : g0 = none) (h : wpList P ops Q rest (F n (updo f d0 v)) w') : wpList P ops Q ({ dst := d0, op := op0, type := ty0, pos := ps0, after := af0, guard := g0 } :: rest) (F n f) w := p_valO hr hg h
theorem q_val (hr : ∀ w, S w → (execOp (ev n f) { dst := d0, op := op0, type := ty0, pos := ps0, after := af0, guard := g0 }).run P w = .ok (.value v) w) (hg : g0 = none) (hS : S w) (h : seqH P ops Q S N rest' (F n (updo f d0 v)) w) : seqH P ops Q S N ((true, { dst := d0, op := op0, type := ty0, pos := ps0, after := af0, guard := g0 }) :: rest') (F n f) w := q_valO hr hg hS h
theorem q_eff (hr : (execOp (ev n f) { dst := d0, op := op0, type := ty0, pos := ps0, after := af0, guard := g0 }).run P w = .ok (.value v) w') (hg : g0 = none) (hS : S w') (h : seqH P ops Q S N rest' (F n (updo f d0 v)) w') : seqH P ops Q S N ((false, { dst := d0, op := op0, type := ty0, pos := ps0, after := af0, guard := g0 }) :: rest') (F n f) w := q_effO hr hg hS h
theorem p_no {b : Bool} (hg : g0 = some (j, want)) (hj : ops[j]? = some oj) (hd : oj.dst = some d) (hv : ev n f (.tmp d) = .bool b) (hb : (b == want) = false) (h : wpList P ops Q rest (F n (updo f d0 undef)) w) : wpList P ops Q ({ dst := d0, op := op0, type := ty0, pos := ps0, after := af0, guard := g0 } :: rest) (F n f) w := p_noO hg hj hd hv hb h
theorem q_no {b c : Bool} (hg : g0 = some (j, want)) (hj : ops[j]? = some oj) (hd : oj.dst = some d) (hv : ev n f (.tmp d) = .bool b) (hb : (b == want) = false) (hS : S w) (h : seqH P ops Q S N rest' (F n (updo f d0 undef)) w) : seqH P ops Q S N ((c, { dst := d0, op := op0, type := ty0, pos := ps0, after := af0, guard := g0 }) :: rest') (F n f) w := q_noO hg hj hd hv hb hS h
theorem pg_val {b : Bool} (hg : g0 = some (j, want)) (hj : ops[j]? = some oj) (hd : oj.dst = some d) (hv : ev n f (.tmp d) = .bool b) (hb : (b == want) = true) (hr : (execOp (ev n f) { dst := d0, op := op0, type := ty0, pos := ps0, after := af0, guard := g0 }).run P w = .ok (.value v) w') (h : wpList P ops Q rest (F n (updo f d0 v)) w') : wpList P ops Q ({ dst := d0, op := op0, type := ty0, pos := ps0, after := af0, guard := g0 } :: rest) (F n f) w := pg_valO hg hj hd hv hb hr h
theorem qg_val {b : Bool} (hg : g0 = some (j, want)) (hj : ops[j]? = some oj) (hd : oj.dst = some d) (hv : ev n f (.tmp d) = .bool b) (hb : (b == want) = true) (hr : ∀ w, S w → (execOp (ev n f) { dst := d0, op := op0, type := ty0, pos := ps0, after := af0, guard := g0 }).run P w = .ok (.value v) w) (hS : S w) (h : seqH P ops Q S N rest' (F n (updo f d0 v)) w) : seqH P ops Q S N ((true, { dst := d0, op := op0, type := ty0, pos := ps0, after := af0, guard := g0 }) :: rest') (F n f) w := qg_valO hg hj hd hv hb hr hS h
theorem qg_eff {b : Bool} (hg : g0 = some (j, want)) (hj : ops[j]? = some oj) (hd : oj.dst = some d) (hv : ev n f (.tmp d) = .bool b) (hb : (b == want) = true) (hr : (execOp (ev n f) { dst := d0, op := op0, type := ty0, pos := ps0, after := af0, guard := g0 }).run P w = .ok (.value v) w') (hS : S w') (h : seqH P ops Q S N rest' (F n (updo f d0 v)) w') : seqH P ops Q S N ((false, { dst := d0, op := op0, type := ty0, pos := ps0, after := af0, guard := g0 }) :: rest') (F n f) w := qg_effO hg hj hd hv hb hr hS h
end
end Go.Proofs.Ytcgcjklpilbndaa.E

/- Laws on memory for walks over this seat's program: what a call has made for itself, slices that are read, rows that are appended to. It proves no statement by itself. -/
set_option linter.unusedSimpArgs false
set_option linter.unusedVariables false
namespace Go.Proofs.Ytcgcjklpilbndaa.E
open Go Go.RowKit

def Sz (P : Program) (t : TypeId) (n : Nat) : Prop := ∀ w, (sizeOf t).run P w = .ok n w
def Zv (P : Program) (t : TypeId) (v : Value) : Prop := ∀ w, (zeroValue t).run P w = .ok v w
def Ag (P : Program) (t : TypeId) (b : Bool) : Prop := ∀ w, (isAgg t).run P w = .ok b w
theorem sz_of {P : Program} {t : TypeId} {n : Nat} (h : (P.info? t).map (·.size) = some n) : Sz P t n := by
  intro w
  obtain ⟨i, hi, hs⟩ := Option.map_eq_some_iff.1 h
  simp [sizeOf, typeInfo, hi, hs]
theorem zv_of {P : Program} {t : TypeId} {v : Value} (h : (P.info? t).map (·.zero) = some (some v)) : Zv P t v := by
  intro w
  obtain ⟨i, hi, hs⟩ := Option.map_eq_some_iff.1 h
  simp [zeroValue, typeInfo, hi, hs]
theorem ag_of {P : Program} {t : TypeId} {d : TypeDesc} (b : Bool) (h : P.underlying t = some d) (hd : (match d with | .struct _ | .array _ _ => true | _ => false) = b) : Ag P t b := by
  intro w
  unfold isAgg
  rw [Sem.run_bind, run_underlying h w]
  cases d <;> simp_all

theorem add_lit (b m : Nat) : (⟨b, 0, none⟩ : Addr).add m = ⟨b, m, none⟩ := by unfold Addr.add; split <;> simp_all
theorem add_zero (a : Addr) : a.add 0 = a := by simp [Addr.add]
theorem add_add (a : Addr) (i j : Nat) : (a.add i).add j = a.add (i + j) := by
  unfold Addr.add
  by_cases hi : i = 0 <;> by_cases hj : j = 0 <;> simp [hi, hj, Nat.add_assoc]

/-! ### Slices that are read -/
/-- The slice value '.slice A n c' reads as the cells xs. -/
def Rd (w : World) (size : Nat) (A : Option Addr) (n : Nat) (xs : List Value) : Prop :=
  xs.length = n * size ∧ ∀ j u, xs[j]? = some u → ∃ ad, A = some ad ∧ w.cell? (ad.add j) = some u
theorem Rd.nil (w : World) (size : Nat) (A : Option Addr) : Rd w size A 0 [] := ⟨by simp, fun j u h => by simp at h⟩
theorem Rd.below {w w' : World} {size n : Nat} {A : Option Addr} {xs : List Value} (h : Rd w size A n xs) (hb : Below w.heap.size w w') : Rd w' size A n xs :=
  ⟨h.1, fun j u hu => by
    obtain ⟨ad, e, hc⟩ := h.2 j u hu
    exact ⟨ad, e, (hb.cell (World.block_lt_of_cell? w _ hc)).trans hc⟩⟩
theorem Rd.drew {w : World} {size n : Nat} {A : Option Addr} {xs : List Value} (h : Rd w size A n xs) : Rd w.drew size A n xs := h
theorem Rd.cell {w : World} {n : Nat} {ad : Addr} {size : Nat} {xs : List Value} (h : Rd w size (some ad) n xs) {j : Nat} {u : Value} (hu : xs[j]? = some u) : w.cell? (ad.add j) = some u := by
  obtain ⟨ad', e, hc⟩ := h.2 j u hu
  cases e
  exact hc
theorem Rd.some_ {w : World} {size n : Nat} {A : Option Addr} {xs : List Value} (h : Rd w size A n xs) (hn : 0 < xs.length) : ∃ ad, A = some ad := by
  obtain ⟨ad, e, _⟩ := h.2 0 xs[0] (List.getElem?_eq_getElem hn)
  exact ⟨ad, e⟩
theorem Rd.take {w : World} {size n : Nat} {A : Option Addr} {xs : List Value} (h : Rd w size A n xs) {m : Nat} (hm : m ≤ n) : Rd w size A m (xs.take (m * size)) := by
  have h1 : m * size ≤ n * size := Nat.mul_le_mul_right _ hm
  refine ⟨by rw [List.length_take, h.1]; omega, fun j u hu => h.2 j u ?_⟩
  rw [List.getElem?_take] at hu
  split at hu
  · exact hu
  · cases hu
/-- 's[m:]', its address as the model has it -/
theorem Rd.drop {w : World} {size n cap : Nat} {A : Option Addr} {xs : List Value} (h : Rd w size A n xs) {m : Nat} (hm : m ≤ n) (hc : n ≤ cap) :
    Rd w size (if cap = m then A else A.map (·.add (m * size))) (n - m) (xs.drop (m * size)) := by
  refine ⟨by rw [List.length_drop, h.1, Nat.sub_mul], fun j u hu => ?_⟩
  rw [List.getElem?_drop] at hu
  obtain ⟨ad, rfl, hcell⟩ := h.2 _ u hu
  have hlt : m * size + j < n * size := by
    rw [← h.1]
    exact (List.getElem?_eq_some_iff.1 hu).1
  have : ¬ cap = m := by
    intro e
    have : n = m := by omega
    subst this
    omega
  rw [if_neg this]
  exact ⟨ad.add (m * size), rfl, by rw [add_add]; exact hcell⟩

/-! ### What a call has: old blocks as they were but for 'ex', and blocks of its own, each by what it holds -/
structure St (w0 w : World) (ex : List Nat) (ks : List (Option Nat)) (ps : List (Option Obj → Prop)) : Prop where
  os : w.os = w0.os
  tape : w.tape = w0.tape
  output : w.output = w0.output
  size : w0.heap.size ≤ w.heap.size
  old : ∀ k, k < w0.heap.size → k ∉ ex → w.heap[k]? = w0.heap[k]?
  own : ∀ (i : Nat) (k : Option Nat) (p : Option Obj → Prop), ks[i]? = some k → ps[i]? = some p → p (k.bind fun b => w.heap[b]?)
  lt : ∀ b, some b ∈ ks → b < w.heap.size
  fresh : ∀ b, some b ∈ ks → w0.heap.size ≤ b ∨ b ∈ ex
  nodup : ∀ (i j b : Nat), ks[i]? = some (some b) → ks[j]? = some (some b) → i = j

def Ex (cs : Array Value) (t : TypeId) : Option Obj → Prop := fun o => o = some (.cells cs t (0, 0))
def Rw (e : TypeId) (size n cap : Nat) (xs : List Value) : Option Obj → Prop := fun o =>
  xs.length = n * size ∧ ((o = none ∧ n = 0 ∧ cap = 0) ∨ ∃ cur, o = some (.cells cur e (0, 0)) ∧ n ≤ cap ∧ cap ≤ maxLen ∧ cur.size = cap * size ∧ cur.toList.take (n * size) = xs)
abbrev at_ (k : Option Nat) : Option Addr := k.map fun b => ⟨b, 0, none⟩

section
variable {w0 w w' : World} {ex : List Nat} {ks ks' : List (Option Nat)} {ps ps' : List (Option Obj → Prop)}
theorem St.init (w : World) : St w w [] [] [] := ⟨rfl, rfl, rfl, Nat.le_refl _, fun _ _ _ => rfl, fun i k p h => by simp at h, fun b h => by simp at h, fun b h => by simp at h, fun i j b h => by simp at h⟩
theorem St.init1 {g : Nat} {o : Obj} (p : Option Obj → Prop) (hg : w.heap[g]? = some o) (hp : p (some o)) : St w w [g] [some g] [p] :=
  ⟨rfl, rfl, rfl, Nat.le_refl _, fun _ _ _ => rfl, fun i k p' h h' => by
    match i, h, h' with
    | 0, h, h' => simp at h h'; subst h h'; simpa [hg] using hp
    | i + 1, h, h' => simp at h, fun b h => by
    simp at h
    subst h
    exact (Array.getElem?_eq_some_iff.1 hg).1, fun b h => .inr (by simpa using h), fun i j b h h' => by
    match i, j, h, h' with
    | 0, 0, _, _ => rfl
    | i + 1, _, h, _ => simp at h
    | _, j + 1, _, h' => simp at h'⟩
theorem St.drew (S : St w0 w ex ks ps) : St w0 w.drew ex ks ps := ⟨S.os, S.tape, S.output, S.size, S.old, S.own, S.lt, S.fresh, S.nodup⟩
theorem St.below (S : St w0 w ex ks ps) (hb : Below w.heap.size w w') : St w0 w' ex ks ps :=
  ⟨hb.os.trans S.os, hb.tape.trans S.tape, hb.output.trans S.output, Nat.le_trans S.size hb.size, fun k hk hx => (hb.block k (by have := S.size; omega)).trans (S.old k hk hx),
   fun i k p h h' => by
    have := S.own i k p h h'
    cases k with
    | none => exact this
    | some b =>
      have hlt := S.lt b (List.mem_of_getElem? h)
      simpa [hb.block b hlt] using this,
   fun b h => Nat.lt_of_lt_of_le (S.lt b h) hb.size, S.fresh, S.nodup⟩
theorem St.alloc (S : St w0 w ex ks ps) (o : Obj) (p : Option Obj → Prop) (hp : p (some o)) : St w0 (w.alloc o) ex (some w.heap.size :: ks) (p :: ps) := by
  have hb : Below w.heap.size w (w.alloc o) := (Below.refl _ _).alloc (Nat.le_refl _) o
  have S' := S.below hb
  refine ⟨S'.os, S'.tape, S'.output, S'.size, S'.old, fun i k p' h h' => ?_, fun b h => ?_, fun b h => ?_, fun i j b h h' => ?_⟩
  · match i, h, h' with
    | 0, h, h' =>
      simp at h h'
      subst h h'
      simp only [Option.bind_some, heap_alloc_new]
      exact hp
    | i + 1, h, h' => exact S'.own i k p' (by simpa using h) (by simpa using h')
  · rcases List.mem_cons.1 h with h | h
    · cases h
      simp
    · exact S'.lt b h
  · rcases List.mem_cons.1 h with h | h
    · cases h
      exact .inl S.size
    · exact S'.fresh b h
  · match i, j, h, h' with
    | 0, 0, _, _ => rfl
    | 0, j + 1, h, h' =>
      simp at h h'
      have := S.lt b (List.mem_of_getElem? h')
      omega
    | i + 1, 0, h, h' =>
      simp at h h'
      have := S.lt b (List.mem_of_getElem? h)
      omega
    | i + 1, j + 1, h, h' => exact congrArg (· + 1) (S.nodup i j b (by simpa using h) (by simpa using h'))
/-- a callee's own, put with the caller's: the callee has turned nothing old -/
theorem St.merge (S : St w0 w ex ks ps) (T : St w w' [] ks' ps') (hl : ps'.length = ks'.length) : St w0 w' ex (ks' ++ ks) (ps' ++ ps) := by
  have hb : Below w.heap.size w w' := ⟨T.os, T.tape, T.output, T.size, fun k hk => T.old k hk (by simp)⟩
  have S' := S.below hb
  have hfr : ∀ b, some b ∈ ks' → w.heap.size ≤ b := fun b h => (T.fresh b h).resolve_right (by simp)
  refine ⟨S'.os, S'.tape, S'.output, S'.size, S'.old, fun i k p' h h' => ?_, fun b h => ?_, fun b h => ?_, fun i j b h h' => ?_⟩
  · rcases Nat.lt_or_ge i ks'.length with hi | hi
    · rw [List.getElem?_append_left hi] at h
      rw [List.getElem?_append_left (by omega)] at h'
      exact T.own i k p' h h'
    · rw [List.getElem?_append_right hi] at h
      rw [List.getElem?_append_right (by omega), hl] at h'
      exact S'.own _ k p' h h'
  · rcases List.mem_append.1 h with h | h
    · exact T.lt b h
    · exact S'.lt b h
  · rcases List.mem_append.1 h with h | h
    · exact .inl (by have := hfr b h; have := S.size; omega)
    · exact S'.fresh b h
  · rcases Nat.lt_or_ge i ks'.length with hi | hi <;> rcases Nat.lt_or_ge j ks'.length with hj | hj
    · rw [List.getElem?_append_left hi] at h
      rw [List.getElem?_append_left hj] at h'
      exact T.nodup i j b h h'
    · rw [List.getElem?_append_left hi] at h
      rw [List.getElem?_append_right hj] at h'
      have := hfr b (List.mem_of_getElem? h)
      have := S.lt b (List.mem_of_getElem? h')
      omega
    · rw [List.getElem?_append_right hi] at h
      rw [List.getElem?_append_left hj] at h'
      have := hfr b (List.mem_of_getElem? h')
      have := S.lt b (List.mem_of_getElem? h)
      omega
    · rw [List.getElem?_append_right hi] at h
      rw [List.getElem?_append_right hj] at h'
      have := S.nodup _ _ b h h'
      omega
/-- what is no more spoken of -/
theorem St.tail {k : Option Nat} {p : Option Obj → Prop} (S : St w0 w ex (k :: ks) (p :: ps)) : St w0 w ex ks ps :=
  ⟨S.os, S.tape, S.output, S.size, S.old, fun i k p h h' => S.own (i + 1) k p (by simpa using h) (by simpa using h'), fun b h => S.lt b (List.mem_cons_of_mem _ h), fun b h => S.fresh b (List.mem_cons_of_mem _ h),
   fun i j b h h' => by
    have := S.nodup (i + 1) (j + 1) b (by simpa using h) (by simpa using h')
    omega⟩
/-- another order, some left out: 'σ' tells of each place where it stood -/
theorem St.pick (S : St w0 w ex ks ps) (σ : List Nat) (hσ : σ.Nodup) (hk : ∀ i ∈ σ, i < ks.length) (hp : ∀ i ∈ σ, i < ps.length) :
    St w0 w ex (σ.map fun i => ks.getD i none) (σ.map fun i => ps.getD i fun _ => True) := by
  have key : ∀ (i : Nat) (k : Option Nat), (σ.map fun i => ks.getD i none)[i]? = some k → ∃ s, σ[i]? = some s ∧ ks[s]? = some k := by
    intro i k h
    rw [List.getElem?_map] at h
    obtain ⟨s, hs, hk'⟩ := Option.map_eq_some_iff.1 h
    refine ⟨s, hs, ?_⟩
    have := hk s (List.mem_of_getElem? hs)
    rw [List.getD_eq_getElem?_getD, List.getElem?_eq_getElem this] at hk'
    rw [List.getElem?_eq_getElem this]
    exact congrArg some hk'
  refine ⟨S.os, S.tape, S.output, S.size, S.old, fun i k p h h' => ?_, fun b h => ?_, fun b h => ?_, fun i j b h h' => ?_⟩
  · obtain ⟨s, hs, hk'⟩ := key i k h
    rw [List.getElem?_map, hs] at h'
    have hlt := hp s (List.mem_of_getElem? hs)
    simp only [Option.map_some, Option.some.injEq] at h'
    rw [List.getD_eq_getElem?_getD, List.getElem?_eq_getElem hlt] at h'
    exact S.own s k p hk' (by rw [List.getElem?_eq_getElem hlt]; exact congrArg some h')
  · obtain ⟨i, hi⟩ := List.getElem?_of_mem h
    obtain ⟨s, hs, hk'⟩ := key i _ hi
    exact S.lt b (List.mem_of_getElem? hk')
  · obtain ⟨i, hi⟩ := List.getElem?_of_mem h
    obtain ⟨s, hs, hk'⟩ := key i _ hi
    exact S.fresh b (List.mem_of_getElem? hk')
  · obtain ⟨s, hs, hk1⟩ := key i _ h
    obtain ⟨s', hs', hk2⟩ := key j _ h'
    have := S.nodup s s' b hk1 hk2
    subst this
    have hi := (List.getElem?_eq_some_iff.1 hs)
    have hj := (List.getElem?_eq_some_iff.1 hs')
    obtain ⟨hi, ei⟩ := hi
    obtain ⟨hj, ej⟩ := hj
    exact (List.getElem_inj hσ).1 (ei.trans ej.symm)
theorem St.to_below (S : St w0 w [] ks ps) : Below w0.heap.size w0 w := ⟨S.os, S.tape, S.output, S.size, fun k hk => S.old k hk (by simp)⟩
theorem Below.st {w w' : World} (h : Below w.heap.size w w') : St w w' [] [] [] := (St.init w).below h
/-- a block of its own gets other cells -/
theorem St.setRow (S : St w0 w ex ks ps) (i : Nat) {b : Nat} {cs cs' : Array Value} {t : TypeId} {fr : Nat × Nat} (p' : Option Obj → Prop) (hk : ks[i]? = some (some b)) (hb : w.heap[b]? = some (.cells cs t fr)) (hp : p' (some (.cells cs' t fr))) :
    St w0 (w.setRow b cs') ex ks (ps.set i p') := by
  have hlt := S.lt b (List.mem_of_getElem? hk)
  refine ⟨S.os, S.tape, S.output, by simpa using S.size, fun k hk' hx => ?_, fun j k p h h' => ?_, fun c h => by simpa using S.lt c h, S.fresh, S.nodup⟩
  · have : k ≠ b := by
      rintro rfl
      rcases S.fresh k (List.mem_of_getElem? hk) with h | h
      · omega
      · exact hx h
    rw [setRow_other w b k cs' this]
    exact S.old k hk' hx
  · by_cases hij : j = i
    · subst hij
      rw [hk] at h
      cases h
      have hl : j < ps.length := by
        have := (List.getElem?_eq_some_iff.1 h').1
        simpa using this
      rw [List.getElem?_set_self hl] at h'
      cases h'
      simpa [setRow_heap w b cs cs' t fr hb] using hp
    · rw [List.getElem?_set_ne (Ne.symm hij)] at h'
      have := S.own j k p h h'
      cases k with
      | none => exact this
      | some c =>
        have : c ≠ b := by
          rintro rfl
          exact hij (S.nodup j i c h hk)
        simpa [setRow_other w b c cs' this] using S.own j (some c) p h h'
theorem St.mono (S : St w0 w ex ks ps) (i : Nat) (p p' : Option Obj → Prop) (hp : ps[i]? = some p) (h : ∀ o, p o → p' o) : St w0 w ex ks (ps.set i p') := by
  refine ⟨S.os, S.tape, S.output, S.size, S.old, fun j k q hk hq => ?_, S.lt, S.fresh, S.nodup⟩
  by_cases hij : j = i
  · subst hij
    have hl : j < ps.length := (List.getElem?_eq_some_iff.1 hp).1
    rw [List.getElem?_set_self hl] at hq
    cases hq
    exact h _ (S.own j k p hk hp)
  · rw [List.getElem?_set_ne (Ne.symm hij)] at hq
    exact S.own j k q hk hq
theorem St.exact_ (S : St w0 w ex ks ps) (i : Nat) {b : Nat} {cs : Array Value} {t : TypeId} (hk : ks[i]? = some (some b)) (hp : ps[i]? = some (Ex cs t)) : w.heap[b]? = some (.cells cs t (0, 0)) := S.own i _ _ hk hp
theorem St.cell (S : St w0 w ex ks ps) (i : Nat) {b : Nat} {cs : Array Value} {t : TypeId} (hk : ks[i]? = some (some b)) (hp : ps[i]? = some (Ex cs t)) (m : Nat) : w.cell? ((⟨b, 0, none⟩ : Addr).add m) = cs[m]? := by
  rw [add_lit]
  exact cell_of_row w b m cs t (0, 0) (S.exact_ i hk hp)
/-- 'x[lo:hi]' of an array of its own reads -/
theorem St.rdEx (S : St w0 w ex ks ps) (i : Nat) {b : Nat} {cs : Array Value} {t : TypeId} (hk : ks[i]? = some (some b)) (hp : ps[i]? = some (Ex cs t)) {size n : Nat} (hn : cs.size = n * size) : Rd w size (some ⟨b, 0, none⟩) n cs.toList :=
  ⟨by simpa using hn, fun j u hu => ⟨_, rfl, by rw [S.cell i hk hp]; simpa using hu⟩⟩
theorem St.rdRw (S : St w0 w ex ks ps) (i : Nat) {k : Option Nat} {e : TypeId} {size n cap : Nat} {xs : List Value} (hk : ks[i]? = some k) (hp : ps[i]? = some (Rw e size n cap xs)) : Rd w size (at_ k) n xs := by
  obtain ⟨hl, h⟩ := S.own i _ _ hk hp
  refine ⟨hl, fun j u hu => ?_⟩
  rcases h with ⟨hn, h0, _⟩ | ⟨cur, hc, h1, h2, h3, h4⟩
  · subst h0
    have : xs = [] := List.eq_nil_of_length_eq_zero (by simpa using hl)
    subst this
    simp at hu
  · cases k with
    | none => simp at hc
    | some b =>
      refine ⟨_, rfl, ?_⟩
      rw [add_lit, cell_of_row w b j cur e (0, 0) (by simpa using hc)]
      rw [← h4, List.getElem?_take] at hu
      split at hu
      · simpa using hu
      · cases hu
theorem St.rdOld (S : St w0 w ex ks ps) {size n : Nat} {A : Option Addr} {xs : List Value} (h : Rd w0 size A n xs) (hx : ex = []) : Rd w size A n xs := by
  subst hx
  exact h.below S.to_below
theorem St.addNil (S : St w0 w ex ks ps) (e : TypeId) (size : Nat) : St w0 w ex (none :: ks) (Rw e size 0 0 [] :: ps) := by
  refine ⟨S.os, S.tape, S.output, S.size, S.old, fun i k p h h' => ?_, fun b h => ?_, fun b h => ?_, fun i j b h h' => ?_⟩
  · match i, h, h' with
    | 0, h, h' =>
      simp at h h'
      subst h h'
      exact ⟨by simp, .inl ⟨rfl, rfl, rfl⟩⟩
    | i + 1, h, h' => exact S.own i k p (by simpa using h) (by simpa using h')
  · rcases List.mem_cons.1 h with h | h
    · cases h
    · exact S.lt b h
  · rcases List.mem_cons.1 h with h | h
    · cases h
    · exact S.fresh b h
  · match i, j, h, h' with
    | 0, _, h, _ => simp at h
    | _, 0, _, h' => simp at h'
    | i + 1, j + 1, h, h' => exact congrArg (· + 1) (S.nodup i j b (by simpa using h) (by simpa using h'))
theorem St.grown (S : St w0 w ex ks ps) (i : Nat) {k k' : Option Nat} {p' : Option Obj → Prop} (hk : ks[i]? = some k) (hg : w.grownBy w' k) (hk' : k' = k ∨ k' = some w.heap.size)
    (hlt : ∀ b, k' = some b → b < w'.heap.size) (hp : p' (k'.bind fun b => w'.heap[b]?)) : St w0 w' ex (ks.set i k') (ps.set i p') := by
  have hil : i < ks.length := (List.getElem?_eq_some_iff.1 hk).1
  have hmem : ∀ b, some b ∈ ks.set i k' → some b ∈ ks ∨ (b = w.heap.size ∧ k' = some b) := by
    intro b h
    rcases List.mem_or_eq_of_mem_set h with h | h
    · exact .inl h
    · rcases hk' with e | e
      · exact .inl (by rw [h, e]; exact List.mem_of_getElem? hk)
      · rw [e] at h
        cases h
        exact .inr ⟨rfl, e⟩
  have hne : ∀ j c, ks[j]? = some (some c) → j ≠ i → some c ≠ k := by
    intro j c h hj e
    subst e
    exact hj (S.nodup j i c h hk)
  refine ⟨hg.os.trans S.os, hg.tape.trans S.tape, hg.output.trans S.output, Nat.le_trans S.size hg.size, fun c hc hx => ?_, fun j q p h h' => ?_, fun b h => ?_, fun b h => ?_, fun a b c h h' => ?_⟩
  · refine (hg.block c (by have := S.size; omega) (fun e => ?_)).trans (S.old c hc hx)
    subst e
    rcases S.fresh c (List.mem_of_getElem? hk) with h | h
    · omega
    · exact hx h
  · by_cases hj : j = i
    · subst hj
      rw [List.getElem?_set_self hil] at h
      have hl : j < ps.length := by
        have := (List.getElem?_eq_some_iff.1 h').1
        simpa using this
      rw [List.getElem?_set_self hl] at h'
      cases h
      cases h'
      exact hp
    · rw [List.getElem?_set_ne (Ne.symm hj)] at h h'
      have := S.own j q p h h'
      cases q with
      | none => exact this
      | some c =>
        have hc := S.lt c (List.mem_of_getElem? h)
        simpa [hg.block c hc (hne j c h hj)] using this
  · rcases hmem b h with h | ⟨h, e⟩
    · exact Nat.lt_of_lt_of_le (S.lt b h) hg.size
    · exact hlt b e
  · rcases hmem b h with h | ⟨h, e⟩
    · exact S.fresh b h
    · exact .inl (by rw [h]; exact S.size)
  · by_cases ha : a = i <;> by_cases hb : b = i
    · rw [ha, hb]
    · subst ha
      rw [List.getElem?_set_self hil] at h
      rw [List.getElem?_set_ne (Ne.symm hb)] at h'
      have e : k' = some c := by simpa using h
      rcases hk' with e' | e'
      · exact absurd (e.symm.trans e') (hne b c h' hb)
      · rw [e'] at e
        cases e
        exact absurd (S.lt _ (List.mem_of_getElem? h')) (Nat.lt_irrefl _)
    · subst hb
      rw [List.getElem?_set_self hil] at h'
      rw [List.getElem?_set_ne (Ne.symm ha)] at h
      have e : k' = some c := by simpa using h'
      rcases hk' with e' | e'
      · exact absurd (e.symm.trans e') (hne a c h ha)
      · rw [e'] at e
        cases e
        exact absurd (S.lt _ (List.mem_of_getElem? h)) (Nat.lt_irrefl _)
    · rw [List.getElem?_set_ne (Ne.symm ha)] at h
      rw [List.getElem?_set_ne (Ne.symm hb)] at h'
      exact S.nodup a b c h h'
theorem Rw.owns {k : Option Nat} {e : TypeId} {size n cap : Nat} {xs : List Value} (h : Rw e size n cap xs (k.bind fun b => w.heap[b]?)) (hk : ∀ b, k = some b → b < w.heap.size) : w.ownsRow 0 e size (.slice (at_ k) n cap) n xs := by
  obtain ⟨hl, h⟩ := h
  refine ⟨hl, ?_⟩
  rcases h with ⟨h0, h1, h2⟩ | ⟨cur, hc, r⟩
  · left
    subst h1 h2
    cases k with
    | none => exact ⟨rfl, rfl⟩
    | some b =>
      have := hk b rfl
      simp [this] at h0
  · cases k with
    | none => simp at hc
    | some b => exact .inr ⟨b, cap, cur, rfl, Nat.zero_le _, by simpa using hc, r⟩
theorem Rw.of_owns {e : TypeId} {size n : Nat} {v : Value} {xs : List Value} (h : w.ownsRow 0 e size v n xs) : ∃ (k : Option Nat) (cap : Nat), v = .slice (at_ k) n cap ∧ Rw e size n cap xs (k.bind fun b => w.heap[b]?) ∧ v.ownBlock = k ∧ ∀ b, k = some b → b < w.heap.size := by
  rcases h with ⟨hl, ⟨rfl, rfl⟩ | ⟨g, cap, cur, rfl, _, hg, r⟩⟩
  · exact ⟨none, 0, rfl, ⟨hl, .inl ⟨rfl, rfl, rfl⟩⟩, rfl, fun b h => by cases h⟩
  · exact ⟨some g, cap, rfl, ⟨hl, .inr ⟨cur, by simpa using hg, r⟩⟩, rfl, fun b h => by cases h; exact (Array.getElem?_eq_some_iff.1 hg).1⟩
theorem St.head {k : Option Nat} {p : Option Obj → Prop} (S : St w0 w ex (k :: ks) (p :: ps)) : St w0 w ex [k] [p] := S.pick [0] (by simp) (by simp) (by simp)
theorem St.none_ (S : St w0 w ex ks ps) : St w0 w ex [] [] := S.pick [] (by simp) (by simp) (by simp)
theorem St.oldBlock (S : St w0 w ex ks ps) {b : Nat} {o : Obj} (hb : w0.heap[b]? = some o) (hx : b ∉ ex) : w.heap[b]? = some o :=
  (S.old b (Array.getElem?_eq_some_iff.1 hb).1 hx).trans hb
theorem St.oldCell (S : St w0 w ex ks ps) {b : Nat} {cs : Array Value} {t : TypeId} {fr : Nat × Nat} (hb : w0.heap[b]? = some (.cells cs t fr)) (hx : b ∉ ex) (m : Nat) : w.cell? ((⟨b, 0, none⟩ : Addr).add m) = cs[m]? := by
  rw [add_lit]
  exact cell_of_row w b m cs t fr (S.oldBlock hb hx)
end
end Go.Proofs.Ytcgcjklpilbndaa.E

/- Laws on single operations for walks over this seat's program. It proves no statement by itself. -/
set_option linter.unusedSimpArgs false
set_option linter.unusedVariables false
namespace Go.Proofs.Ytcgcjklpilbndaa.E
open Go Go.RowKit

/-! ### Numbers of 32 bits and 8, as natural numbers -/
def add32 (a b : Nat) : Nat := (a + b) % 4294967296
def and32 (a b : Nat) : Nat := (a &&& b) % 4294967296
def or32 (a b : Nat) : Nat := (a ||| b) % 4294967296
def xor32 (a b : Nat) : Nat := (a ^^^ b) % 4294967296
def not32 (a : Nat) : Nat := 4294967295 - a % 4294967296
def shl32 (a n : Nat) : Nat := (a <<< n) % 4294967296
def shr32 (a n : Nat) : Nat := a >>> n

theorem ofInt_nat (k a : Nat) : (BitVec.ofInt k (a : Int)).toNat = a % 2 ^ k := by
  rw [BitVec.ofInt_natCast, BitVec.toNat_ofNat]
theorem wrap32_nat (n : Nat) : IntKind.u32.wrap (n : Int) = ((n % 4294967296 : Nat) : Int) := by
  rw [IntKind.wrap_u32]; omega
theorem wrap8_nat (n : Nat) : IntKind.u8.wrap (n : Int) = ((n % 256 : Nat) : Int) := by
  rw [IntKind.wrap_u8]; omega
theorem bits_and32 (a b : Nat) : bits .and .u32 (a : Int) (b : Int) = (and32 a b : Int) := by
  show IntKind.u32.wrap ((BitVec.ofInt 32 (a : Int) &&& BitVec.ofInt 32 (b : Int)).toNat : Int) = _
  rw [BitVec.toNat_and, ofInt_nat, ofInt_nat, wrap32_nat, and32]
  congr 1
  rw [← Nat.and_mod_two_pow (n := 32)]
  simp
theorem bits_or32 (a b : Nat) : bits .or .u32 (a : Int) (b : Int) = (or32 a b : Int) := by
  show IntKind.u32.wrap ((BitVec.ofInt 32 (a : Int) ||| BitVec.ofInt 32 (b : Int)).toNat : Int) = _
  rw [BitVec.toNat_or, ofInt_nat, ofInt_nat, wrap32_nat, or32]
  congr 1
  rw [← Nat.or_mod_two_pow (n := 32)]
  simp
theorem bits_xor32 (a b : Nat) : bits .xor .u32 (a : Int) (b : Int) = (xor32 a b : Int) := by
  show IntKind.u32.wrap ((BitVec.ofInt 32 (a : Int) ^^^ BitVec.ofInt 32 (b : Int)).toNat : Int) = _
  rw [BitVec.toNat_xor, ofInt_nat, ofInt_nat, wrap32_nat, xor32]
  congr 1
  rw [← Nat.xor_mod_two_pow (n := 32)]
  simp

section
variable {P : Program} {ρ : Operand → Value} {d : Option Tmp} {x y : Operand} {t ty yt : TypeId} {ps : String} {af : Array Edge} {g : Option (Nat × Bool)} {w : World}

theorem e_move {v : Value} (h : ρ x = v) : (execOp ρ { dst := d, op := .move x, type := ty, pos := ps, after := af, guard := g }).run P w = .ok (.value v) w := by rw [← h]; rfl
theorem e_assign {v : Value} (h : ρ x = v) : (execOp ρ { dst := d, op := .assign x, type := ty, pos := ps, after := af, guard := g }).run P w = .ok (.value v) w := by rw [← h]; rfl
theorem e_pick {c a b : Operand} {t : Bool} {u v : Value} (hc : ρ c = .bool t) (ha : ρ a = u) (hb : ρ b = v) : (execOp ρ { dst := d, op := .pick c a b, type := ty, pos := ps, after := af, guard := g }).run P w = .ok (.value (if t then u else v)) w := by
  subst ha hb
  simp [execOp, hc, asBool]
theorem e_pick_t {c a b : Operand} {u : Value} (hc : ρ c = .bool true) (ha : ρ a = u) : (execOp ρ { dst := d, op := .pick c a b, type := ty, pos := ps, after := af, guard := g }).run P w = .ok (.value u) w := by
  subst ha
  simp [execOp, hc, asBool]
theorem e_pick_f {c a b : Operand} {u : Value} (hc : ρ c = .bool false) (hb : ρ b = u) : (execOp ρ { dst := d, op := .pick c a b, type := ty, pos := ps, after := af, guard := g }).run P w = .ok (.value u) w := by
  subst hb
  simp [execOp, hc, asBool]
theorem e_nil {v : Value} (hx : ρ x = v) (hv : (match v with | .pointer (some _) => true | _ => false) = true) : (execOp ρ { dst := d, op := .nilCheck x, type := ty, pos := ps, after := af, guard := g }).run P w = .ok (.value v) w := by
  cases v with
  | pointer p =>
    cases p with
    | none => cases hv
    | some a => simp [execOp, hx]
  | _ => cases hv
theorem e_extract {vs : Array Value} {i : Nat} {v : Value} (hx : ρ x = .tuple vs) (hv : vs[i]? = some v) : (execOp ρ { dst := d, op := .extract x i, type := ty, pos := ps, after := af, guard := g }).run P w = .ok (.value v) w := by
  simp [execOp, hx, Instr.extract, hv]
theorem run_bin {op : BinOp} {v : Value} (h : ∀ w, (binOp op t (ρ x) (ρ y)).run P w = .ok v w) (hg : ∀ w, (eqGuard op t x y (ρ x) (ρ y)).run P w = .ok () w) :
    (execOp ρ { dst := d, op := .binOp op t x y yt, type := ty, pos := ps, after := af, guard := g }).run P w = .ok (.value v) w := by
  simp [execOp, hg, h]

variable {k : IntKind} {a b : Int}
theorem e_int (op : BinOp) {v : Value} (hx : ρ x = .int k a) (hy : ρ y = .int k b) (h : ∀ w, (binOp op t (.int k a) (.int k b)).run P w = .ok v w) :
    (execOp ρ { dst := d, op := .binOp op t x y yt, type := ty, pos := ps, after := af, guard := g }).run P w = .ok (.value v) w :=
  run_bin (by rw [hx, hy]; exact h) (by intro w; rw [hx]; cases op <;> rfl)
theorem e_add64 (hx : ρ x = .int .i64 a) (hy : ρ y = .int .i64 b) (hb : -9223372036854775808 ≤ a + b ∧ a + b ≤ 9223372036854775807) :
    (execOp ρ { dst := d, op := .binOp .add t x y yt, type := ty, pos := ps, after := af, guard := g }).run P w = .ok (.value (.int .i64 (a + b))) w :=
  e_int .add hx hy fun w => by simp [binOp, Op.intArith, IntWalk.i64_in _ hb]
theorem e_sub64 (hx : ρ x = .int .i64 a) (hy : ρ y = .int .i64 b) (hb : -9223372036854775808 ≤ a - b ∧ a - b ≤ 9223372036854775807) :
    (execOp ρ { dst := d, op := .binOp .sub t x y yt, type := ty, pos := ps, after := af, guard := g }).run P w = .ok (.value (.int .i64 (a - b))) w :=
  e_int .sub hx hy fun w => by simp [binOp, Op.intArith, IntWalk.i64_in _ hb]
theorem e_mul64 (hx : ρ x = .int .i64 a) (hy : ρ y = .int .i64 b) (hb : -9223372036854775808 ≤ a * b ∧ a * b ≤ 9223372036854775807) :
    (execOp ρ { dst := d, op := .binOp .mul t x y yt, type := ty, pos := ps, after := af, guard := g }).run P w = .ok (.value (.int .i64 (a * b))) w :=
  e_int .mul hx hy fun w => by simp [binOp, Op.intArith, IntWalk.i64_in _ hb]
theorem e_quo64 (hx : ρ x = .int .i64 a) (hy : ρ y = .int .i64 b) (h0 : 0 ≤ a ∧ a ≤ 9223372036854775807 ∧ 1 ≤ b) :
    (execOp ρ { dst := d, op := .binOp .quo t x y yt, type := ty, pos := ps, after := af, guard := g }).run P w = .ok (.value (.int .i64 (a / b))) w :=
  e_int .quo hx hy fun w => by
    have : ¬ b = 0 := by omega
    simp [binOp, Op.intDiv, this, IntWalk.i64_quo a b h0]
theorem e_rem64 (hx : ρ x = .int .i64 a) (hy : ρ y = .int .i64 b) (h0 : 0 ≤ a ∧ 1 ≤ b) :
    (execOp ρ { dst := d, op := .binOp .rem t x y yt, type := ty, pos := ps, after := af, guard := g }).run P w = .ok (.value (.int .i64 (a % b))) w :=
  e_int .rem hx hy fun w => by
    have : ¬ b = 0 := by omega
    simp [binOp, Op.intDiv, this, IntWalk.rem_in a b h0.1]
theorem e_lss (hx : ρ x = .int k a) (hy : ρ y = .int k b) : (execOp ρ { dst := d, op := .binOp .lss t x y yt, type := ty, pos := ps, after := af, guard := g }).run P w = .ok (.value (.bool (decide (a < b)))) w :=
  e_int .lss hx hy fun w => by simp [binOp, Op.intCmp]
theorem e_leq (hx : ρ x = .int k a) (hy : ρ y = .int k b) : (execOp ρ { dst := d, op := .binOp .leq t x y yt, type := ty, pos := ps, after := af, guard := g }).run P w = .ok (.value (.bool (decide (a ≤ b)))) w :=
  e_int .leq hx hy fun w => by simp [binOp, Op.intCmp]
theorem e_gtr (hx : ρ x = .int k a) (hy : ρ y = .int k b) : (execOp ρ { dst := d, op := .binOp .gtr t x y yt, type := ty, pos := ps, after := af, guard := g }).run P w = .ok (.value (.bool (decide (b < a)))) w :=
  e_int .gtr hx hy fun w => by simp [binOp, Op.intCmp]
theorem e_geq (hx : ρ x = .int k a) (hy : ρ y = .int k b) : (execOp ρ { dst := d, op := .binOp .geq t x y yt, type := ty, pos := ps, after := af, guard := g }).run P w = .ok (.value (.bool (decide (b ≤ a)))) w :=
  e_int .geq hx hy fun w => by simp [binOp, Op.intCmp]
theorem e_eql (hx : ρ x = .int k a) (hy : ρ y = .int k b) : (execOp ρ { dst := d, op := .binOp .eql t x y yt, type := ty, pos := ps, after := af, guard := g }).run P w = .ok (.value (.bool (decide (a = b)))) w :=
  e_int .eql hx hy fun w => by
    have : (a == b) = decide (a = b) := by by_cases h : a = b <;> simp [h]
    simp [binOp, Op.intCmp, this]
theorem e_neq (hx : ρ x = .int k a) (hy : ρ y = .int k b) : (execOp ρ { dst := d, op := .binOp .neq t x y yt, type := ty, pos := ps, after := af, guard := g }).run P w = .ok (.value (.bool (decide (¬ a = b)))) w :=
  e_int .neq hx hy fun w => by
    have : (a != b) = decide (¬ a = b) := by by_cases h : a = b <;> simp [h]
    simp [binOp, Op.intCmp, this]
/-- comparisons decided by what is known -/
theorem e_lss_t (hx : ρ x = .int k a) (hy : ρ y = .int k b) (h : a < b) : (execOp ρ { dst := d, op := .binOp .lss t x y yt, type := ty, pos := ps, after := af, guard := g }).run P w = .ok (.value (.bool true)) w := by
  have := e_lss (P := P) (d := d) (t := t) (yt := yt) (ty := ty) (ps := ps) (af := af) (g := g) (w := w) hx hy
  simpa [h] using this
theorem e_lss_f (hx : ρ x = .int k a) (hy : ρ y = .int k b) (h : ¬ a < b) : (execOp ρ { dst := d, op := .binOp .lss t x y yt, type := ty, pos := ps, after := af, guard := g }).run P w = .ok (.value (.bool false)) w := by
  have := e_lss (P := P) (d := d) (t := t) (yt := yt) (ty := ty) (ps := ps) (af := af) (g := g) (w := w) hx hy
  simpa [h] using this
theorem e_not {b : Bool} (hx : ρ x = .bool b) : (execOp ρ { dst := d, op := .unOp .not t x, type := ty, pos := ps, after := af, guard := g }).run P w = .ok (.value (.bool (!b))) w := by
  simp [execOp, hx, Op.unary]

variable {m n : Nat}
theorem e_add32 (hx : ρ x = .int .u32 (m : Int)) (hy : ρ y = .int .u32 (n : Int)) : (execOp ρ { dst := d, op := .binOp .add t x y yt, type := ty, pos := ps, after := af, guard := g }).run P w = .ok (.value (.int .u32 (add32 m n : Int))) w :=
  e_int .add hx hy fun w => by
    have : IntKind.u32.wrap ((m : Int) + (n : Int)) = (add32 m n : Int) := by rw [IntKind.wrap_u32, add32]; omega
    simp [binOp, Op.intArith, this]
theorem e_and32 (hx : ρ x = .int .u32 (m : Int)) (hy : ρ y = .int .u32 (n : Int)) : (execOp ρ { dst := d, op := .binOp .and t x y yt, type := ty, pos := ps, after := af, guard := g }).run P w = .ok (.value (.int .u32 (and32 m n : Int))) w :=
  e_int .and hx hy fun w => congrArg (fun z => Result.ok (Value.int .u32 z) w) (bits_and32 m n)
theorem e_or32 (hx : ρ x = .int .u32 (m : Int)) (hy : ρ y = .int .u32 (n : Int)) : (execOp ρ { dst := d, op := .binOp .or t x y yt, type := ty, pos := ps, after := af, guard := g }).run P w = .ok (.value (.int .u32 (or32 m n : Int))) w :=
  e_int .or hx hy fun w => congrArg (fun z => Result.ok (Value.int .u32 z) w) (bits_or32 m n)
theorem e_xor32 (hx : ρ x = .int .u32 (m : Int)) (hy : ρ y = .int .u32 (n : Int)) : (execOp ρ { dst := d, op := .binOp .xor t x y yt, type := ty, pos := ps, after := af, guard := g }).run P w = .ok (.value (.int .u32 (xor32 m n : Int))) w :=
  e_int .xor hx hy fun w => congrArg (fun z => Result.ok (Value.int .u32 z) w) (bits_xor32 m n)
theorem e_shl32 {yk : IntKind} (n : Nat) (hx : ρ x = .int .u32 (m : Int)) (hy : ρ y = .int yk (n : Int)) (hn : n ≤ 32) : (execOp ρ { dst := d, op := .binOp .shl t x y yt, type := ty, pos := ps, after := af, guard := g }).run P w = .ok (.value (.int .u32 (shl32 m n : Int))) w :=
  run_bin (by
    intro w
    rw [hx, hy]
    have h : min n 32 = n := by omega
    simp only [binOp, Op.shift, Int.toNat_natCast, IntKind.bits, h]
    rw [if_neg (by omega)]
    simp only [Sem.run_pure, IntKind.wrap_u32, shl32, Nat.shiftLeft_eq]
    congr 2) (by intro w; rw [hx]; rfl)
theorem e_shr32 {yk : IntKind} (n : Nat) (hx : ρ x = .int .u32 (m : Int)) (hy : ρ y = .int yk (n : Int)) (hn : n ≤ 32) : (execOp ρ { dst := d, op := .binOp .shr t x y yt, type := ty, pos := ps, after := af, guard := g }).run P w = .ok (.value (.int .u32 (shr32 m n : Int))) w :=
  run_bin (by
    intro w
    rw [hx, hy]
    have h : min n 32 = n := by omega
    simp only [binOp, Op.shift, Int.toNat_natCast, IntKind.bits, h]
    rw [if_neg (by omega)]
    simp only [Sem.run_pure, shr32, Nat.shiftRight_eq_div_pow]
    congr 2
    rw [Int.fdiv_eq_ediv_of_nonneg _ (by exact Int.le_of_lt (Int.pow_pos (by decide)))]
    simp) (by intro w; rw [hx]; rfl)
theorem e_not32 (hx : ρ x = .int .u32 (m : Int)) : (execOp ρ { dst := d, op := .unOp .xor t x, type := ty, pos := ps, after := af, guard := g }).run P w = .ok (.value (.int .u32 (not32 m : Int))) w := by
  have h1 : (if IntKind.u32.signed then (-1 : Int) else IntKind.u32.max) = ((4294967295 : Nat) : Int) := by decide
  have h2 : bits .xor .u32 ((4294967295 : Nat) : Int) (m : Int) = (not32 m : Int) := by
    show IntKind.u32.wrap ((BitVec.ofInt 32 ((4294967295 : Nat) : Int) ^^^ BitVec.ofInt 32 (m : Int)).toNat : Int) = _
    have e : BitVec.ofInt 32 ((4294967295 : Nat) : Int) = BitVec.allOnes 32 := by decide
    rw [e, BitVec.allOnes_xor, BitVec.toNat_not, ofInt_nat, wrap32_nat, not32]
    congr 1
    omega
  have h3 : ∀ w, (Op.unary .xor (.int .u32 (m : Int))).run P w = .ok (.int .u32 (not32 m : Int)) w := fun w => by
    show (Op.intBits .xor .u32 _ (m : Int)).run P w = _
    rw [h1]
    exact congrArg (fun z => Result.ok (Value.int .u32 z) w) h2
  simp [execOp, hx, h3]
/-- '>>' of an int from 0 on, of a uint64 -/
theorem e_shr64 {yk : IntKind} (n : Nat) (hx : ρ x = .int k (m : Int)) (hy : ρ y = .int yk (n : Int)) (hn : n ≤ k.bits) : (execOp ρ { dst := d, op := .binOp .shr t x y yt, type := ty, pos := ps, after := af, guard := g }).run P w = .ok (.value (.int k ((m >>> n : Nat) : Int))) w :=
  run_bin (by
    intro w
    rw [hx, hy]
    have h : min n k.bits = n := by omega
    simp only [binOp, Op.shift, Int.toNat_natCast, h]
    rw [if_neg (by omega)]
    simp only [Sem.run_pure, Nat.shiftRight_eq_div_pow]
    congr 2
    rw [Int.fdiv_eq_ediv_of_nonneg _ (by exact Int.le_of_lt (Int.pow_pos (by decide)))]
    simp) (by intro w; rw [hx]; rfl)
/-- conversions -/
theorem e_conv {j : IntKind} {u : TypeDesc} {s : TypeId} (hx : ρ x = .int k a) (hs : P.underlying s = some u) (hu : u ≠ .unsafePointer) (ht : P.underlying t = some (.int j)) : (execOp ρ { dst := d, op := .convert s t x, type := ty, pos := ps, after := af, guard := g }).run P w = .ok (.value (.int j (j.wrap a))) w := by
  simp [execOp, hx, convert, run_underlying hs, run_underlying ht, Conv.intToInt]
theorem e_conv_in {j : IntKind} {u : TypeDesc} {s : TypeId} (hx : ρ x = .int k a) (hs : P.underlying s = some u) (hu : u ≠ .unsafePointer) (ht : P.underlying t = some (.int j)) (hw : j.wrap a = b) : (execOp ρ { dst := d, op := .convert s t x, type := ty, pos := ps, after := af, guard := g }).run P w = .ok (.value (.int j b)) w := by
  rw [e_conv hx hs hu ht, hw]
end

/-! ### Memory -/
/-- What an operation does: it yields, or stores, or calls; behind it R. -/
def Does (P : Program) (ρ : Operand → Value) (o : Oper) (w : World) (R : Value → World → Prop) : Prop :=
  (∃ v w', (execOp ρ o).run P w = .ok (.value v) w' ∧ R v w') ∨ (∃ w', (execOp ρ o).run P w = .ok .skip w' ∧ R undef w') ∨
  (∃ k args, (execOp ρ o).run P w = .ok (.enter k (List.toArray args)) w ∧ Ret P k args w R)
section
variable {P : Program} {ops : Array Oper} {Q : Exit → Act → World → Prop} {S : World → Prop} {N : Act → World → Prop} {n : Nat} {f : Nat → Value} {w : World} {o oj : Oper} {rest : List Oper} {rest' : List (Bool × Oper)} {R : Value → World → Prop} {j d : Nat} {b want : Bool}
theorem p_doesO (hd : Does P (ev n f) o w R) (hg : o.guard = none) (h : ∀ v w', R v w' → wpList P ops Q rest (F n (updo f o.dst v)) w') : wpList P ops Q (o :: rest) (F n f) w := by
  rcases hd with ⟨v, w', hr, hR⟩ | ⟨w', hr, hR⟩ | ⟨k, args, hr, hc⟩
  · exact p_valO hr hg (h v w' hR)
  · exact p_skipO hr hg (h _ w' hR)
  · exact p_callO hr hg hc h
theorem q_doesO (hd : Does P (ev n f) o w R) (hg : o.guard = none) (h : ∀ v w', R v w' → S w' ∧ seqH P ops Q S N rest' (F n (updo f o.dst v)) w') : seqH P ops Q S N ((false, o) :: rest') (F n f) w := by
  rcases hd with ⟨v, w', hr, hR⟩ | ⟨w', hr, hR⟩ | ⟨k, args, hr, hc⟩
  · exact q_effO hr hg (h v w' hR).1 (h v w' hR).2
  · exact q_skipO hr hg (h _ w' hR).1 (h _ w' hR).2
  · exact q_callO hr hg hc h
theorem qg_doesO (hg : o.guard = some (j, want)) (hj : ops[j]? = some oj) (hjd : oj.dst = some d) (hv : ev n f (.tmp d) = .bool b) (hb : (b == want) = true) (hd : Does P (ev n f) o w R)
    (h : ∀ v w', R v w' → S w' ∧ seqH P ops Q S N rest' (F n (updo f o.dst v)) w') : seqH P ops Q S N ((false, o) :: rest') (F n f) w := by
  rcases hd with ⟨v, w', hr, hR⟩ | ⟨w', hr, hR⟩ | ⟨k, args, hr, hc⟩
  · exact qg_effO hg hj hjd hv hb hr (h v w' hR).1 (h v w' hR).2
  · unfold seqH
    rw [wanted_F hg hj hjd hv, hb, if_pos rfl]
    unfold Oper.wp
    rw [eval_F, hr]
    have := h _ w' hR
    exact ⟨this.1, by rw [put_F]; exact this.2⟩
  · exact qg_callO hg hj hjd hv hb hr hc h
theorem pg_doesO (hg : o.guard = some (j, want)) (hj : ops[j]? = some oj) (hjd : oj.dst = some d) (hv : ev n f (.tmp d) = .bool b) (hb : (b == want) = true) (hd : Does P (ev n f) o w R)
    (h : ∀ v w', R v w' → wpList P ops Q rest (F n (updo f o.dst v)) w') : wpList P ops Q (o :: rest) (F n f) w := by
  rcases hd with ⟨v, w', hr, hR⟩ | ⟨w', hr, hR⟩ | ⟨k, args, hr, hc⟩
  · exact pg_valO hg hj hjd hv hb hr (h v w' hR)
  · refine wpList_step fun K hK => ?_
    rw [wanted_F hg hj hjd hv, hb, if_pos rfl]
    unfold Oper.wp
    rw [eval_F, hr]
    exact hK _ _ (by rw [put_F]; exact h _ w' hR)
  · exact pg_callO hg hj hjd hv hb hr hc h
variable {d0 : Option Tmp} {op0 : Op} {ty0 : TypeId} {ps0 : String} {af0 : Array Edge} {g0 : Option (Nat × Bool)}
theorem p_does (hd : Does P (ev n f) { dst := d0, op := op0, type := ty0, pos := ps0, after := af0, guard := g0 } w R) (hg : g0 = none) (h : ∀ v w', R v w' → wpList P ops Q rest (F n (updo f d0 v)) w') : wpList P ops Q ({ dst := d0, op := op0, type := ty0, pos := ps0, after := af0, guard := g0 } :: rest) (F n f) w := p_doesO hd hg h
theorem q_does (hd : Does P (ev n f) { dst := d0, op := op0, type := ty0, pos := ps0, after := af0, guard := g0 } w R) (hg : g0 = none) (h : ∀ v w', R v w' → S w' ∧ seqH P ops Q S N rest' (F n (updo f d0 v)) w') : seqH P ops Q S N ((false, { dst := d0, op := op0, type := ty0, pos := ps0, after := af0, guard := g0 }) :: rest') (F n f) w := q_doesO hd hg h
theorem qg_does (hg : g0 = some (j, want)) (hj : ops[j]? = some oj) (hjd : oj.dst = some d) (hv : ev n f (.tmp d) = .bool b) (hb : (b == want) = true) (hd : Does P (ev n f) { dst := d0, op := op0, type := ty0, pos := ps0, after := af0, guard := g0 } w R)
    (h : ∀ v w', R v w' → S w' ∧ seqH P ops Q S N rest' (F n (updo f d0 v)) w') : seqH P ops Q S N ((false, { dst := d0, op := op0, type := ty0, pos := ps0, after := af0, guard := g0 }) :: rest') (F n f) w := qg_doesO hg hj hjd hv hb hd h
theorem pg_does (hg : g0 = some (j, want)) (hj : ops[j]? = some oj) (hjd : oj.dst = some d) (hv : ev n f (.tmp d) = .bool b) (hb : (b == want) = true) (hd : Does P (ev n f) { dst := d0, op := op0, type := ty0, pos := ps0, after := af0, guard := g0 } w R)
    (h : ∀ v w', R v w' → wpList P ops Q rest (F n (updo f d0 v)) w') : wpList P ops Q ({ dst := d0, op := op0, type := ty0, pos := ps0, after := af0, guard := g0 } :: rest) (F n f) w := pg_doesO hg hj hjd hv hb hd h
end

section
variable {P : Program} {ρ : Operand → Value} {d : Option Tmp} {x y : Operand} {t ty : TypeId} {ps : String} {af : Array Edge} {g : Option (Nat × Bool)} {w w0 : World} {ex : List Nat} {ks : List (Option Nat)} {pp : List (Option Obj → Prop)}

/-- a call of a Go function -/
theorem run_callGo {k : FuncId} {fn : Func} (hf : P.funcs[k]? = some fn) (hn : (fn.name == "runtime.NumGoroutine") = false) (hb : fn.body.isNone = false) (args : Array Value) (w : World) :
    (callFunc k args).run P w = .ok (.enter k args) w := by
  unfold callFunc
  simp only [Sem.run_bind, run_program, Result.andThen_ok, hf, hn, hb, Bool.false_eq_true, if_false, Sem.run_pure]
theorem d_call {n : Nat} {f : Nat → Value} {k : FuncId} {xs : List Operand} {ats : Array TypeId} {args : List Value} {fn : Func} {R : Value → World → Prop} (hf : P.funcs[k]? = some fn) (hn : (fn.name == "runtime.NumGoroutine") = false) (hb : fn.body.isNone = false)
    (hargs : xs.map (ev n f) = args) (hc : Ret P k args w R) :
    Does P (ev n f) { dst := d, op := .call { callee := .value (.func k), args := xs.toArray, argTypes := ats }, type := ty, pos := ps, after := af, guard := g } w R := by
  refine .inr (.inr ⟨k, args, ?_, hc⟩)
  have h := run_callGo hf hn hb args.toArray w
  subst hargs
  have e : (#[] ++ (xs.toArray.map (ev n f)) ++ #[] : Array Value) = (xs.map (ev n f)).toArray := by simp
  show (callFunc k (#[] ++ (xs.toArray.map (ev n f)) ++ #[])).run P w = _
  rw [e]
  exact h

theorem d_alloc {z : Value} (S : St w0 w ex ks pp) (hz : Zv P t z) : Does P ρ { dst := d, op := .alloc t, type := ty, pos := ps, after := af, guard := g } w
    fun v w' => ∃ b, v = .pointer (some ⟨b, 0, none⟩) ∧ St w0 w' ex (some b :: ks) (Ex z.cells t :: pp) := by
  refine .inl ⟨.pointer (some ⟨w.heap.size, 0, none⟩), w.alloc (.cells z.cells t), ?_, _, rfl, S.alloc _ _ rfl⟩
  have hz' := hz w
  simp [execOp, Instr.alloc, hz', newVar, newRow]
theorem d_box {v : Value} (S : St w0 w ex ks pp) (hx : ρ x = v) : Does P ρ { dst := d, op := .box t x, type := ty, pos := ps, after := af, guard := g } w
    fun u w' => ∃ b, u = .pointer (some ⟨b, 0, none⟩) ∧ St w0 w' ex (some b :: ks) (Ex v.cells t :: pp) := by
  refine .inl ⟨.pointer (some ⟨w.heap.size, 0, none⟩), w.alloc (.cells v.cells t), ?_, _, rfl, S.alloc _ _ rfl⟩
  simp [execOp, Instr.box, hx, newVar, newRow]

/-- addresses -/
theorem e_ix_arr {ad : Addr} {k : IntKind} {i : Int} {len s : Nat} {e : TypeId} (hx : ρ x = .pointer (some ad)) (hy : ρ y = .int k i) (hu : P.underlying t = some (.array len e)) (hs : Sz P e s) (h0 : 0 ≤ i ∧ i < len) :
    (execOp ρ { dst := d, op := .indexAddr t x y, type := ty, pos := ps, after := af, guard := g }).run P w = .ok (.value (.pointer (some (ad.add (i.toNat * s))))) w := by
  have hs' := hs w
  simp [execOp, hx, hy, Instr.indexAt, asIntOf, run_underlying hu, Instr.sureAddr, hs', h0.1, h0.2]
theorem e_ix_sl {ad : Addr} {k : IntKind} {i : Int} {n c s : Nat} {e : TypeId} (hx : ρ x = .slice (some ad) n c) (hy : ρ y = .int k i) (hu : P.underlying t = some (.slice e)) (hs : Sz P e s) (h0 : 0 ≤ i ∧ i < n) :
    (execOp ρ { dst := d, op := .indexAddr t x y, type := ty, pos := ps, after := af, guard := g }).run P w = .ok (.value (.pointer (some (ad.add (i.toNat * s))))) w := by
  have hs' := hs w
  simp [execOp, hx, hy, Instr.indexAt, asIntOf, run_underlying hu, Instr.sureAddr, hs', h0.1, h0.2]
theorem e_field {ad : Addr} {fs : Array Field} {i s : Nat} {fd : Field} (hx : ρ x = .pointer (some ad)) (hu : P.underlying t = some (.struct fs)) (hf : fs[i]? = some fd) (hs : Sz P fd.type s) (hs0 : ¬ s = 0) :
    (execOp ρ { dst := d, op := .fieldAddr t x i, type := ty, pos := ps, after := af, guard := g }).run P w = .ok (.value (.pointer (some (ad.add fd.offset)))) w := by
  have hs' := hs w
  simp [execOp, hx, Instr.fieldAt, run_underlying hu, hf, Instr.sureAddr, fieldPlace, hs', hs0]
/-- loads -/
theorem e_load {ad : Addr} {v : Value} (hx : ρ x = .pointer (some ad)) (ha : Ag P t false) (hc : w.cell? ad = some v) :
    (execOp ρ { dst := d, op := .load t x, type := ty, pos := ps, after := af, guard := g }).run P w = .ok (.value v) w := by
  have ha' := ha w
  simp [execOp, hx, Instr.loadAt, Instr.sureAddr, loadVar, ha', hc]
theorem e_loadN {ad : Addr} {cs : List Value} {s : Nat} (hx : ρ x = .pointer (some ad)) (ha : Ag P t true) (hs : Sz P t s) (hl : cs.length = s) (hc : ∀ j u, cs[j]? = some u → w.cell? (ad.add j) = some u) :
    (execOp ρ { dst := d, op := .load t x, type := ty, pos := ps, after := af, guard := g }).run P w = .ok (.value (.agg cs.toArray)) w := by
  have ha' := ha w
  have hs' := hs w
  have hr := run_loadCells_list (P := P) w ad cs hc
  rw [hl] at hr
  simp [execOp, hx, Instr.loadAt, Instr.sureAddr, loadVar, ha', hs', hr]
/-- stores -/
theorem d_store1 (S : St w0 w ex ks pp) (i : Nat) {b m : Nat} {cs : Array Value} {e : TypeId} {v : Value} (hx : ρ x = .pointer (some ((⟨b, 0, none⟩ : Addr).add m))) (hy : ρ y = v) (h1 : v.oneCell' = true) (hs : Sz P t 1)
    (hk : ks[i]? = some (some b)) (hp : pp[i]? = some (Ex cs e)) (hm : m < cs.size) :
    Does P ρ { dst := d, op := .store t x y, type := ty, pos := ps, after := af, guard := g } w fun _ w' => St w0 w' ex ks (pp.set i (Ex (cs.setIfInBounds m v) e)) := by
  have hb := S.exact_ i hk hp
  refine .inr (.inl ⟨w.setRow b (cs.setIfInBounds m v), ?_, S.setRow i (Ex _ _) hk hb rfl⟩)
  have hs' := hs w
  have hcs : v.cells = #[v] := by cases v <;> simp_all [Value.oneCell', Value.cells]
  have hc : w.cell? ⟨b, m, none⟩ = some cs[m] := by rw [cell_of_row w b m cs e (0, 0) hb, Array.getElem?_eq_getElem hm]
  have hf : w.frozen? ⟨b, m, none⟩ = false := frozen_of_row w b m cs e hb
  have hst := run_store P w ⟨b, m, none⟩ v .plain h1
  rw [hc] at hst
  simp only [hf, Bool.false_eq_true, if_false] at hst
  simp [execOp, hx, hy, Instr.storeAt, Instr.sureAddr, storeVar, hs', hcs, storeCells, add_zero, add_lit, hst, setCell_eq_setRow w b m cs e (0, 0) v hb]
theorem d_storeN (S : St w0 w ex ks pp) (i : Nat) {b m s : Nat} {cs : Array Value} {e : TypeId} {vs : List Value} (hx : ρ x = .pointer (some ((⟨b, 0, none⟩ : Addr).add m))) (hy : ρ y = .agg vs.toArray) (h1 : ∀ v ∈ vs, v.oneCell' = true) (hs : Sz P t s) (hl : vs.length = s)
    (hk : ks[i]? = some (some b)) (hp : pp[i]? = some (Ex cs e)) (hm : m + s ≤ cs.size) :
    Does P ρ { dst := d, op := .store t x y, type := ty, pos := ps, after := af, guard := g } w fun _ w' => St w0 w' ex ks (pp.set i (Ex (cs.toList.take m ++ vs ++ cs.toList.drop (m + s)).toArray e)) := by
  have hb := S.exact_ i hk hp
  refine .inr (.inl ⟨w.setRow b (cs.toList.take m ++ vs ++ cs.toList.drop (m + s)).toArray, ?_, S.setRow i (Ex _ _) hk hb rfl⟩)
  have hs' := hs w
  have hr := run_storeCells_at P b m e vs 0 cs w hb (by simpa [hl] using hm) h1
  simp only [Nat.add_zero, hl] at hr
  simp [execOp, hx, hy, Instr.storeAt, Instr.sureAddr, storeVar, hs', Value.cells, hl, add_lit, hr]
/-- a whole block of its own is stored to -/
theorem d_storeW (S : St w0 w ex ks pp) (i : Nat) {b s : Nat} {cs : Array Value} {e : TypeId} {vs : List Value} (hx : ρ x = .pointer (some ⟨b, 0, none⟩)) (hy : ρ y = .agg vs.toArray) (h1 : ∀ v ∈ vs, v.oneCell' = true) (hs : Sz P t s) (hl : vs.length = s)
    (hk : ks[i]? = some (some b)) (hp : pp[i]? = some (Ex cs e)) (hm : cs.size = s) :
    Does P ρ { dst := d, op := .store t x y, type := ty, pos := ps, after := af, guard := g } w fun _ w' => St w0 w' ex ks (pp.set i (Ex vs.toArray e)) := by
  have h := d_storeN (P := P) (ρ := ρ) (d := d) (x := x) (y := y) (t := t) (ty := ty) (ps := ps) (af := af) (g := g) S i (m := 0) (by rw [hx, add_zero]) hy h1 hs hl hk hp (by omega)
  have e1 : (cs.toList.take 0 ++ vs ++ cs.toList.drop (0 + s)).toArray = vs.toArray := by
    rw [List.take_zero, List.nil_append, Nat.zero_add, List.drop_of_length_le (by simp; omega), List.append_nil]
  rw [e1] at h
  exact h
/-- len -/
theorem e_len {A : Option Addr} {n c : Nat} {u : TypeId} {e : TypeId} (hx : ρ x = .slice A n c) (hu : P.underlying u = some (.slice e)) :
    (execOp ρ { dst := d, op := .call { callee := .builtin .len, args := #[x], argTypes := #[u] }, type := ty, pos := ps, after := af, guard := g }).run P w = .ok (.value (.int .i64 (n : Int))) w := by
  show ((do pure (.value (← Builtin.len_ #[u] ty (#[x].map ρ)))) : Sem Next).run P w = _
  simp [Builtin.len_, run_underlying hu, hx, goInt]

theorem d_allocA {z : List Value} (S : St w0 w ex ks pp) (hz : Zv P t (.agg z.toArray)) : Does P ρ { dst := d, op := .alloc t, type := ty, pos := ps, after := af, guard := g } w
    fun v w' => ∃ b, v = .pointer (some ⟨b, 0, none⟩) ∧ St w0 w' ex (some b :: ks) (Ex z.toArray t :: pp) := d_alloc S hz
theorem d_boxA {cs : Array Value} (S : St w0 w ex ks pp) (hx : ρ x = .agg cs) : Does P ρ { dst := d, op := .box t x, type := ty, pos := ps, after := af, guard := g } w
    fun u w' => ∃ b, u = .pointer (some ⟨b, 0, none⟩) ∧ St w0 w' ex (some b :: ks) (Ex cs t :: pp) := d_box S hx

/-! slices of arrays, of slices -/
theorem e_sl_arr {ad : Addr} {n s : Nat} {e : TypeId} (hx : ρ x = .pointer (some ad)) (hu : P.underlying t = some (.array n e)) (hs : Sz P e s) :
    (execOp ρ { dst := d, op := .slice t x none none none, type := ty, pos := ps, after := af, guard := g }).run P w = .ok (.value (.slice (some ad) n n)) w := by
  have hs' := hs w
  simp [execOp, hx, Instr.sliceAt, Instr.sureAddr, Instr.sliceBounds, run_underlying hu, hs', add_zero]
theorem e_sl_arr_h {ad : Addr} {n s : Nat} {e : TypeId} {k : IntKind} {i : Int} {y : Operand} (m : Nat) (hx : ρ x = .pointer (some ad)) (hy : ρ y = .int k i) (hi : i = (m : Int)) (hm : m ≤ n) (hu : P.underlying t = some (.array n e)) (hs : Sz P e s) :
    (execOp ρ { dst := d, op := .slice t x none (some y) none, type := ty, pos := ps, after := af, guard := g }).run P w = .ok (.value (.slice (some ad) m n)) w := by
  have hs' := hs w
  subst hi
  have h1 : (m : Int) ≤ (n : Int) := by omega
  simp [execOp, hx, hy, Instr.sliceAt, Instr.sureAddr, Instr.sliceBounds, Instr.sliceBound, asIntOf, run_underlying hu, hs', add_zero, hm]
theorem e_sl_arr_l {ad : Addr} {n s : Nat} {e : TypeId} {k : IntKind} {i : Int} {y : Operand} (m : Nat) (hx : ρ x = .pointer (some ad)) (hy : ρ y = .int k i) (hi : i = (m : Int)) (hm : m < n) (hu : P.underlying t = some (.array n e)) (hs : Sz P e s) :
    (execOp ρ { dst := d, op := .slice t x (some y) none none, type := ty, pos := ps, after := af, guard := g }).run P w = .ok (.value (.slice (some (ad.add (m * s))) (n - m) (n - m))) w := by
  have hs' := hs w
  subst hi
  have h1 : (m : Int) ≤ (n : Int) := by omega
  have h2 : ¬ n = m := by omega
  have h3 : m ≤ n := by omega
  simp [execOp, hx, hy, Instr.sliceAt, Instr.sureAddr, Instr.sliceBounds, Instr.sliceBound, asIntOf, run_underlying hu, hs', h2, h3]
theorem e_sl_h {A : Option Addr} {n c s : Nat} {e : TypeId} {k : IntKind} {i : Int} {y : Operand} (m : Nat) (hx : ρ x = .slice A n c) (hy : ρ y = .int k i) (hi : i = (m : Int)) (hm : m ≤ c) (hu : P.underlying t = some (.slice e)) (hs : Sz P e s) :
    (execOp ρ { dst := d, op := .slice t x none (some y) none, type := ty, pos := ps, after := af, guard := g }).run P w = .ok (.value (.slice A m c)) w := by
  have hs' := hs w
  subst hi
  have h0 : (fun a : Addr => a.add 0) = id := funext add_zero
  simp [execOp, hx, hy, Instr.sliceAt, Instr.slice, Instr.sliceBounds, Instr.sliceBound, asIntOf, run_underlying hu, hs', hm, h0]
theorem e_sl_l {A : Option Addr} {n c s : Nat} {e : TypeId} {k : IntKind} {i : Int} {y : Operand} (m : Nat) (hx : ρ x = .slice A n c) (hy : ρ y = .int k i) (hi : i = (m : Int)) (hm : m ≤ n) (hu : P.underlying t = some (.slice e)) (hs : Sz P e s) :
    (execOp ρ { dst := d, op := .slice t x (some y) none none, type := ty, pos := ps, after := af, guard := g }).run P w = .ok (.value (.slice (if c = m then A else A.map (·.add (m * s))) (n - m) (c - m))) w := by
  have hs' := hs w
  subst hi
  simp [execOp, hx, hy, Instr.sliceAt, Instr.slice, Instr.sliceBounds, Instr.sliceBound, asIntOf, run_underlying hu, hs', hm]
theorem e_sl_lh {A : Option Addr} {n c s : Nat} {e : TypeId} {k k' : IntKind} {i i' : Int} {y z : Operand} (m m' : Nat) (hx : ρ x = .slice A n c) (hy : ρ y = .int k i) (hz : ρ z = .int k' i') (hi : i = (m : Int)) (hi' : i' = (m' : Int)) (hm : m ≤ m') (hm' : m' ≤ c) (hu : P.underlying t = some (.slice e)) (hs : Sz P e s) :
    (execOp ρ { dst := d, op := .slice t x (some y) (some z) none, type := ty, pos := ps, after := af, guard := g }).run P w = .ok (.value (.slice (if c = m then A else A.map (·.add (m * s))) (m' - m) (c - m))) w := by
  have hs' := hs w
  subst hi hi'
  simp [execOp, hx, hy, hz, Instr.sliceAt, Instr.slice, Instr.sliceBounds, Instr.sliceBound, asIntOf, run_underlying hu, hs', hm, hm']

/-! literals of slices: the parts one behind the other -/
theorem foldl_set (c : Array Value) (off : Nat) : ∀ (l : List Value) (k : Nat) (cs : Array Value), off + k + l.length ≤ cs.size →
    (l.zipIdx k).foldl (fun (cs : Array Value) (x : Value × Nat) => cs.setIfInBounds (off + x.2) x.1) cs = (cs.toList.take (off + k) ++ l ++ cs.toList.drop (off + k + l.length)).toArray
  | [], k, cs, _ => by simp
  | v :: l, k, cs, h => by
    simp only [List.zipIdx_cons, List.foldl_cons]
    simp only [List.length_cons] at h
    rw [foldl_set c off l (k + 1) (cs.setIfInBounds (off + k) v) (by simp; omega)]
    have e := list_seg_step cs.toList (off + k) v l (by simp; omega)
    simpa [Array.toList_setIfInBounds, Nat.add_assoc] using e
theorem fill_seq (size : Nat) : ∀ (vs : List Value) (k : Nat) (cs : Array Value), (∀ v ∈ vs, v.cells.size = size) → (k + vs.length) * size = cs.size →
    Instr.fill (fun i => some (i * size, size)) cs ((List.range' k vs.length).zip vs) = some (cs.toList.take (k * size) ++ vs.flatMap fun v => v.cells.toList).toArray
  | [], k, cs, _, h => by
    have : cs.toList.take (k * size) = cs.toList := List.take_of_length_le (by simp at h ⊢; omega)
    simp [Instr.fill, this]
  | v :: vs, k, cs, hv, h => by
    have h0 := hv v (by simp)
    have h1 : (k + 1) * size ≤ (k + (v :: vs).length) * size := Nat.mul_le_mul_right _ (by simp)
    rw [Nat.add_mul, Nat.one_mul] at h1
    have hle : k * size + v.cells.size ≤ cs.size := by omega
    simp only [List.length_cons, List.range'_succ, List.zip_cons_cons, Instr.fill]
    have hc : (decide (v.cells.size ≠ size) || decide (k * size + v.cells.size > cs.size)) = false := by
      simp [h0]
      omega
    have hf := foldl_set #[] (k * size) v.cells.toList 0 cs (by simpa using hle)
    simp only [Nat.add_zero] at hf
    have hz : v.cells.zipIdx.foldl (fun (cs : Array Value) (x : Value × Nat) => cs.setIfInBounds (k * size + x.2) x.1) cs = (cs.toList.take (k * size) ++ v.cells.toList ++ cs.toList.drop (k * size + v.cells.toList.length)).toArray := by
      rw [← hf, ← Array.foldl_toList, Array.toList_zipIdx]
    simp only [hc, Bool.false_eq_true, if_false]
    rw [hz, fill_seq size vs (k + 1) _ (fun u hu => hv u (by simp [hu])) (by
      simp only [List.size_toArray, List.length_append, List.length_take, List.length_drop, Array.length_toList]
      rw [h0]
      simp only [List.length_cons] at h
      rw [show k + 1 + vs.length = k + (vs.length + 1) by omega, h]
      omega)]
    congr 2
    have e2 : (cs.toList.take (k * size) ++ v.cells.toList ++ cs.toList.drop (k * size + v.cells.toList.length)).take ((k + 1) * size) = cs.toList.take (k * size) ++ v.cells.toList := by
      rw [List.take_append_of_le_length (by simp [h0, Nat.add_mul]; omega)]
      exact List.take_of_length_le (by simp [h0, Nat.add_mul]; omega)
    show List.take ((k + 1) * size) (cs.toList.take (k * size) ++ v.cells.toList ++ cs.toList.drop (k * size + v.cells.toList.length)) ++ _ = _
    rw [e2, List.flatMap_cons, List.append_assoc]
theorem d_lit {e : TypeId} {n size : Nat} {parts : List (Nat × Operand)} {vs : List Value} {z : Value} (S : St w0 w ex ks pp) (hu : P.underlying t = some (.slice e)) (hs : Sz P e size) (hz : Zv P e z) (hsz : z.cells.size = size) (hpos : 0 < size)
    (hp : parts.map (fun q => (q.1, ρ q.2)) = (List.range' 0 n).zip vs) (hn : vs.length = n) (hv : ∀ v ∈ vs, v.cells.size = size) (hlim : n * size ≤ 16777216) :
    Does P ρ { dst := d, op := .buildSlice t n parts.toArray, type := ty, pos := ps, after := af, guard := g } w
      fun v w' => ∃ b, v = .slice (at_ (some b)) n n ∧ St w0 w' ex (some b :: ks) (Rw e size n n (vs.flatMap fun v => v.cells.toList) :: pp) := by
  have hfl : ∀ l : List Value, (∀ v ∈ l, v.cells.size = size) → (l.flatMap fun v => v.cells.toList).length = l.length * size := by
    intro l
    induction l with
    | nil => intro _; simp
    | cons v l ih =>
      intro h
      rw [List.flatMap_cons, List.length_append, ih (fun u hu => h u (by simp [hu])), Array.length_toList, h v (by simp), List.length_cons, Nat.add_mul]
      omega
  have hl := hfl vs hv
  rw [hn] at hl
  refine .inl ⟨.slice (some ⟨w.heap.size, 0, none⟩) n n, w.alloc (.cells (vs.flatMap fun v => v.cells.toList).toArray e), ?_, _, rfl, S.alloc _ _ ⟨hl, .inr ⟨_, rfl, Nat.le_refl _, ?_, by simp [hl], ?_⟩⟩⟩
  · have hs' := hs w
    have hz' := hz w
    have hf := fill_seq size vs 0 ((Array.range (n * size)).map (z.cells[· % z.cells.size]!)) hv (by simp [hn])
    simp only [Nat.zero_mul, List.take_zero, List.nil_append, hn] at hf
    have hpp : (parts.toArray.map fun (q : Nat × Operand) => (q.1, ρ q.2)).toList = (List.range' 0 n).zip vs := by simpa using hp
    have hlim' : ¬ n * size > 16777216 := by omega
    have hrun : (Instr.buildSlice t n (parts.toArray.map fun (q : Nat × Operand) => (q.1, ρ q.2))).run P w = .ok (.slice (some ⟨w.heap.size, 0, none⟩) n n) (w.alloc (.cells (vs.flatMap fun v => v.cells.toList).toArray e)) := by
      unfold Instr.buildSlice
      rw [hpp]
      by_cases h0 : n = 0
      · subst h0
        have hvs : vs = [] := List.eq_nil_of_length_eq_zero (by omega)
        subst hvs
        simp [run_underlying hu, hs', Instr.fill, newRow, show Array.range 0 = #[] from rfl]
      · have h1 : ¬ n * size = 0 := by
          rw [Nat.mul_eq_zero]
          omega
        simp [run_underlying hu, hs', hlim', h1, hz', hf, newRow]
    have hx : (execOp ρ { dst := d, op := .buildSlice t n parts.toArray, type := ty, pos := ps, after := af, guard := g }).run P w = ((Instr.buildSlice t n (parts.toArray.map fun (q : Nat × Operand) => (q.1, ρ q.2))).run P w).andThen fun a w' => .ok (.value a) w' := by
      simp [execOp]
    rw [hx, hrun]
    rfl
  · have : n ≤ n * size := Nat.le_mul_of_pos_right _ hpos
    simp only [maxLen]
    omega
  · rw [List.take_of_length_le]
    simp [hl]

/-! append onto a row of the call's own -/
theorem run_append_nil {base : Nat} {e : TypeId} {size n c : Nat} {v : Value} {xs : List Value} (ht : P.underlying t = some (.slice e)) (hs : Sz P e size) (hown : w.ownsRow base e size v n xs) :
    (Builtin.append_ #[t, t] ty #[v, .slice none 0 c]).run P w = .ok v w := by
  have hs' := hs w
  rcases hown.2 with ⟨rfl, rfl⟩ | ⟨g, cap, cur, rfl, _, _, hnc, _⟩
  · simp [Builtin.append_, run_underlying ht, hs', Builtin.lenOf, Builtin.firstCells]
  · simp [Builtin.append_, run_underlying ht, hs', Builtin.lenOf, Builtin.firstCells, hnc, storeCells]
structure El (P : Program) (e : TypeId) (size bytes : Nat) : Prop where
  info : ∃ i z, P.info? e = some i ∧ i.zero = some z ∧ i.size = size ∧ i.bytes = bytes ∧ z.cells.size = size
  pos : 0 < size
theorem El.sz {e : TypeId} {size bytes : Nat} (h : El P e size bytes) : Sz P e size := by
  obtain ⟨⟨i, z, hi, _, hs, _⟩, _⟩ := h
  intro w
  simp [sizeOf, typeInfo, hi, hs]
theorem d_append {e : TypeId} {size bytes n cap m c : Nat} {k : Option Nat} {A : Option Addr} {xs news : List Value} (S : St w0 w ex ks pp) (i : Nat) (hk : ks[i]? = some k) (hp : pp[i]? = some (Rw e size n cap xs))
    (ht : P.underlying t = some (.slice e)) (he : El P e size bytes) (hx : ρ x = .slice (at_ k) n cap) (hy : ρ y = .slice A m c) (hr : Rd w size A m news) (h1 : ∀ u ∈ news, u.oneCell' = true) (hb : (n + m) * bytes ≤ 140737488355328) (h63 : n + m ≤ maxLen) :
    Does P ρ { dst := d, op := .call { callee := .builtin .append, args := #[x, y], argTypes := #[t, t] }, type := ty, pos := ps, after := af, guard := g } w
      fun v w' => ∃ k' cap', v = .slice (at_ k') (n + m) cap' ∧ St w0 w' ex (ks.set i k') (pp.set i (Rw e size (n + m) cap' (xs ++ news))) := by
  have hlt : ∀ b, k = some b → b < w.heap.size := fun b e => S.lt b (by rw [← e]; exact List.mem_of_getElem? hk)
  have hown := Rw.owns (S.own i _ _ hk hp) hlt
  have key : ∃ v' w', (Builtin.append_ #[t, t] ty #[.slice (at_ k) n cap, .slice A m c]).run P w = .ok v' w' ∧ w'.ownsRow 0 e size v' (n + m) (xs ++ news) ∧ w.grownBy w' k ∧ (v'.ownBlock = k ∨ v'.ownBlock = some w.heap.size) := by
    have hkb : (Value.slice (at_ k) n cap).ownBlock = k := by cases k <;> rfl
    rcases A with _ | ad
    · have hn0 : news = [] := by
        cases news with
        | nil => rfl
        | cons u l =>
          obtain ⟨ad, h, _⟩ := hr.2 0 u rfl
          cases h
      subst hn0
      have hm0 : m = 0 := by
        have := hr.1
        rcases Nat.mul_eq_zero.1 this.symm with h | h
        · exact h
        · have := he.pos
          omega
      subst hm0
      exact ⟨_, w, run_append_nil ht he.sz hown, by simpa using hown, ⟨rfl, rfl, rfl, Nat.le_refl _, fun _ _ _ => rfl⟩, .inl hkb⟩
    · obtain ⟨⟨ti, z, hi, hz, hsz, hby, hzs⟩, hpos⟩ := he
      obtain ⟨v', w', hrun, ho, hg, _, hat⟩ := run_append_own_at (P := P) w 0 t ty e ti z size bytes ht hi hz hsz hby hzs hpos _ n xs hown ad m c news hr.1 (fun j u hu => by
        obtain ⟨ad', e', hc⟩ := hr.2 j u hu
        cases e'
        exact hc) h1 h63 hb (Nat.zero_le _)
      rw [hkb] at hg hat
      exact ⟨v', w', hrun, ho, hg, hat⟩
  obtain ⟨v', w', hrun, ho, hg, hat⟩ := key
  obtain ⟨k', cap', rfl, hrow, hkb', hlt'⟩ := Rw.of_owns ho
  rw [hkb'] at hat
  refine .inl ⟨_, w', ?_, k', cap', rfl, S.grown i hk hg hat hlt' hrow⟩
  show ((do pure (.value (← Builtin.append_ #[t, t] ty (#[x, y].map ρ)))) : Sem Next).run P w = _
  simp [hx, hy, hrun]
/-- copy into a block of its own, element by element of one cell -/
theorem d_copy {e : TypeId} {b off dn dc m c u : Nat} {A : Option Addr} {cs : Array Value} {news : List Value} {bt : TypeId} (S : St w0 w ex ks pp) (i : Nat) (hk : ks[i]? = some (some b)) (hp : pp[i]? = some (Ex cs bt))
    (ht : P.underlying t = some (.slice e)) (hi : (P.info? e).map (·.size) = some 1) (hx : ρ x = .slice (some ((⟨b, 0, none⟩ : Addr).add off)) dn dc) (hy : ρ y = .slice A m c) (hr : Rd w 1 A m news) (h1 : ∀ u ∈ news, u.oneCell' = true)
    (hfit : off + min m dn ≤ cs.size) :
    Does P ρ { dst := d, op := .call { callee := .builtin .copy, args := #[x, y], argTypes := #[t, u] }, type := ty, pos := ps, after := af, guard := g } w
      fun v w' => v = .int .i64 ((min m dn : Nat) : Int) ∧ St w0 w' ex ks (pp.set i (Ex (cs.toList.take off ++ news.take dn ++ cs.toList.drop (off + min m dn)).toArray bt)) := by
  have hb := S.exact_ i hk hp
  have hl : (news.take dn).length = min m dn := by rw [List.length_take, hr.1]; omega
  rw [add_lit] at hx
  have hset : w.setRow b cs = w := setRow_self w b cs bt (0, 0) hb
  refine .inl ⟨.int .i64 ((min m dn : Nat) : Int), w.setRow b (cs.toList.take off ++ news.take dn ++ cs.toList.drop (off + min m dn)).toArray, ?_, rfl, S.setRow i (Ex _ _) hk hb rfl⟩
  show ((do pure (.value (← Builtin.copy_ #[t, u] ty (#[x, y].map ρ)))) : Sem Next).run P w = _
  rcases A with _ | ad
  · have hn0 : news = [] := by
      cases news with
      | nil => rfl
      | cons u l =>
        obtain ⟨ad, h, _⟩ := hr.2 0 u rfl
        cases h
    subst hn0
    have hm0 : m = 0 := by
      have := hr.1
      simpa using this.symm
    subst hm0
    obtain ⟨ti, hti, hsz⟩ := Option.map_eq_some_iff.1 hi
    have e1 : (cs.toList.take off ++ ([] : List Value).take dn ++ cs.toList.drop (off + min 0 dn)).toArray = cs := by simp
    rw [e1, hset]
    simp [hx, hy, Builtin.copy_, run_underlying ht, Builtin.lenOf, Builtin.firstCells, sizeOf, typeInfo, hti, hsz, storeCells, goInt]
  · have hrun := run_copy_row (P := P) w t u ty e b off dn dc ad m c cs bt (news.take dn) ht hi hb hl (fun j v hv => by
      rw [List.getElem?_take] at hv
      split at hv
      · obtain ⟨ad', e', hc⟩ := hr.2 j v hv
        cases e'
        exact hc
      · cases hv) (by rw [hl]; exact hfit) (fun v hv => h1 v (List.mem_of_mem_take hv))
    rw [hl] at hrun
    simp [hx, hy, hrun, goInt]
/-! results that lie in memory -/
theorem postC {fn : Func} {R : Value → World → Prop} {n : Nat} {f : Nat → Value} {p : Tmp} {b s : Nat} {cs : Array Value} {e : TypeId} (h : fn.results = #[.cell p t]) (S : St w0 w ex ks pp) (i : Nat) (hp : ev n f (.tmp p) = .pointer (some ⟨b, 0, none⟩)) (hk : ks[i]? = some (some b)) (hpp : pp[i]? = some (Ex cs e))
    (ha : Ag P t true) (hs : Sz P t s) (hl : cs.size = s) (hR : R (.agg cs) w) : Post P fn R .ret (F n f) w := by
  refine postAny (v := .agg cs) ?_ hR
  have hp' : (F n f).tmps[p]?.getD undef = .pointer (some ⟨b, 0, none⟩) := by rw [← Array.getD_eq_getD_getElem?, F_getD]; exact hp
  have hb := S.exact_ i hk hpp
  have hrow : (loadVar t ⟨b, 0, none⟩).run P w = .ok (.agg cs) w := by
    have hr := run_loadCells_list (P := P) w ⟨b, 0, none⟩ cs.toList (fun j v hv => by rw [add_lit, cell_of_row w b j cs e (0, 0) hb]; simpa using hv)
    have ha' := ha w
    have hs' := hs w
    rw [Array.length_toList, hl] at hr
    simp [loadVar, ha', hs', hr]
  simp only [results, h]
  simp [hp', asAddr, hrow]
theorem postC1 {fn : Func} {R : Value → World → Prop} {n : Nat} {f : Nat → Value} {p q : Tmp} {b s : Nat} {cs : Array Value} {e : TypeId} {v : Value} (h : fn.results = #[.cell p t, .tmp q]) (S : St w0 w ex ks pp) (i : Nat) (hp : ev n f (.tmp p) = .pointer (some ⟨b, 0, none⟩)) (hv : ev n f (.tmp q) = v) (hk : ks[i]? = some (some b)) (hpp : pp[i]? = some (Ex cs e))
    (ha : Ag P t true) (hs : Sz P t s) (hl : cs.size = s) (hR : R (.tuple #[.agg cs, v]) w) : Post P fn R .ret (F n f) w := by
  refine postAny (v := .tuple #[.agg cs, v]) ?_ hR
  have hp' : (F n f).tmps[p]?.getD undef = .pointer (some ⟨b, 0, none⟩) := by rw [← Array.getD_eq_getD_getElem?, F_getD]; exact hp
  have hv' : (F n f).tmps[q]?.getD undef = v := by rw [← Array.getD_eq_getD_getElem?, F_getD]; exact hv
  have hb := S.exact_ i hk hpp
  have hrow : (loadVar t ⟨b, 0, none⟩).run P w = .ok (.agg cs) w := by
    have hr := run_loadCells_list (P := P) w ⟨b, 0, none⟩ cs.toList (fun j v hv => by rw [add_lit, cell_of_row w b j cs e (0, 0) hb]; simpa using hv)
    have ha' := ha w
    have hs' := hs w
    rw [Array.length_toList, hl] at hr
    simp [loadVar, ha', hs', hr]
  simp only [results, h]
  simp [hp', hv', asAddr, hrow]
/-! composites by value -/
theorem e_build {parts : Array (Nat × Operand)} {cs : List Value} (h : P.built t (parts.map fun (q : Nat × Operand) => (q.1, ρ q.2)).toList = some cs.toArray) :
    (execOp ρ { dst := d, op := .build t parts, type := ty, pos := ps, after := af, guard := g }).run P w = .ok (.value (.agg cs.toArray)) w := by
  have hr := run_build w t (parts.map fun (q : Nat × Operand) => (q.1, ρ q.2)) cs.toArray h
  show ((do pure (.value (← Instr.build t (parts.map fun (q : Nat × Operand) => (q.1, ρ q.2))))) : Sem Next).run P w = _
  simp [hr]
end
end Go.Proofs.Ytcgcjklpilbndaa.E

/- Lists of numbers as cells; frames with some slots known. It proves no statement by itself. -/
set_option linter.unusedSimpArgs false
set_option linter.unusedVariables false
namespace Go.Proofs.Ytcgcjklpilbndaa.E
open Go Go.RowKit

/-! ### A frame of which some slots are known -/
def upds (f : Nat → Value) : List (Nat × Value) → Nat → Value
  | [] => f
  | (d, v) :: l => upds (upd f d v) l
def Holds (f : Nat → Value) : List (Nat × Value) → Prop
  | [] => True
  | (d, v) :: l => f d = v ∧ Holds f l
theorem upds_eq {f : Nat → Value} : ∀ {l : List (Nat × Value)}, Holds f l → f = upds f l
  | [], _ => rfl
  | (d, v) :: l, ⟨h, hl⟩ => by
    show f = upds (upd f d v) l
    rw [upd_eq f d v h]
    exact upds_eq hl

/-! ### Bytes and words -/
def bv (l : List Nat) : List Value := l.map fun (x : Nat) => .int .u8 (x : Int)
def wv (l : List Nat) : List Value := l.map fun (x : Nat) => .int .u32 (x : Int)
def iv (l : List Int) : List Value := l.map fun x => .int .i64 x
@[simp] theorem bv_length (l : List Nat) : (bv l).length = l.length := by simp [bv]
@[simp] theorem wv_length (l : List Nat) : (wv l).length = l.length := by simp [wv]
@[simp] theorem iv_length (l : List Int) : (iv l).length = l.length := by simp [iv]
theorem bv_append (a b : List Nat) : bv (a ++ b) = bv a ++ bv b := by simp [bv]
theorem bv_one (l : List Nat) : ∀ u ∈ bv l, u.oneCell' = true := by
  intro u hu
  obtain ⟨_, _, rfl⟩ := List.mem_map.1 hu
  rfl
theorem wv_one (l : List Nat) : ∀ u ∈ wv l, u.oneCell' = true := by
  intro u hu
  obtain ⟨_, _, rfl⟩ := List.mem_map.1 hu
  rfl
theorem iv_one (l : List Int) : ∀ u ∈ iv l, u.oneCell' = true := by
  intro u hu
  obtain ⟨_, _, rfl⟩ := List.mem_map.1 hu
  rfl
theorem bv_get {l : List Nat} {i : Nat} (h : i < l.length) : (bv l)[i]? = some (.int .u8 (l.getD i 0 : Int)) := by
  simp [bv, List.getD_eq_getElem?_getD, List.getElem?_eq_getElem h]
theorem wv_get {l : List Nat} {i : Nat} (h : i < l.length) : (wv l)[i]? = some (.int .u32 (l.getD i 0 : Int)) := by
  simp [wv, List.getD_eq_getElem?_getD, List.getElem?_eq_getElem h]
theorem iv_get {l : List Int} {i : Nat} (h : i < l.length) : (iv l)[i]? = some (.int .i64 (l.getD i 0)) := by
  simp [iv, List.getD_eq_getElem?_getD, List.getElem?_eq_getElem h]
theorem wv_getA {l : List Nat} {i : Nat} (h : i < l.length) : (wv l).toArray[i]? = some (.int .u32 (l.getD i 0 : Int)) := by
  rw [List.getElem?_toArray]; exact wv_get h
theorem bv_getA {l : List Nat} {i : Nat} (h : i < l.length) : (bv l).toArray[i]? = some (.int .u8 (l.getD i 0 : Int)) := by
  rw [List.getElem?_toArray]; exact bv_get h
theorem wv_set (l : List Nat) (i x : Nat) : (wv l).toArray.setIfInBounds i (.int .u32 (x : Int)) = (wv (l.set i x)).toArray := by
  simp [wv, List.map_set]
theorem bv_set (l : List Nat) (i x : Nat) : (bv l).toArray.setIfInBounds i (.int .u8 (x : Int)) = (bv (l.set i x)).toArray := by
  simp [bv, List.map_set]
theorem bv_take (l : List Nat) (k : Nat) : (bv l).take k = bv (l.take k) := by simp [bv, List.map_take]
theorem bv_drop (l : List Nat) (k : Nat) : (bv l).drop k = bv (l.drop k) := by simp [bv, List.map_drop]
theorem bv_flat (l : List Nat) : ((bv l).flatMap fun v => v.cells.toList) = bv l := by
  induction l with
  | nil => rfl
  | cons x l ih =>
    show [Value.int .u8 (x : Int)] ++ ((bv l).flatMap fun v => v.cells.toList) = _
    rw [ih]
    rfl
theorem bv_cells (l : List Nat) : ∀ v ∈ bv l, v.cells.size = 1 := by
  intro u hu
  obtain ⟨_, _, rfl⟩ := List.mem_map.1 hu
  rfl
theorem bv_inj {a b : List Nat} (h : bv a = bv b) : a = b := by
  have : ∀ x y : Nat, Value.int .u8 (x : Int) = Value.int .u8 (y : Int) → x = y := by
    intro x y h
    injection h with _ h
    omega
  exact List.map_inj_right (fun x y h => this x y h) |>.1 h
theorem bv_eq {a b : List Nat} : bv a = bv b ↔ a = b := by
  constructor
  · intro h
    exact bv_inj h
  · rintro rfl; rfl
/-- a byte of a slice that is read -/
theorem Rd.byte {w : World} {ad : Addr} {n : Nat} {l : List Nat} (R : Rd w 1 (some ad) n (bv l)) {i : Int} (h : 0 ≤ i ∧ i < n) : w.cell? (ad.add (i.toNat * 1)) = some (.int .u8 (l.getD i.toNat 0 : Int)) := by
  have hl : l.length = n := by simpa using R.1
  rw [Nat.mul_one]
  exact R.cell (bv_get (by omega))
end Go.Proofs.Ytcgcjklpilbndaa.E

/- Parts of slices of bytes that are read. It proves no statement by itself. -/
namespace Go.Proofs.Ytcgcjklpilbndaa
open Go Go.RowKit E
theorem Rd.take_bv {w : World} {n m : Nat} {A : Option Addr} {l : List Nat} (h : Rd w 1 A n (bv l)) (hm : m ≤ n) : Rd w 1 A m (bv (l.take m)) := by
  have := h.take hm
  rwa [bv_take, Nat.mul_one] at this
theorem Rd.drop_bv {w : World} {n m c : Nat} {A : Option Addr} {l : List Nat} (h : Rd w 1 A n (bv l)) (hm : m ≤ n) (hc : n ≤ c) : Rd w 1 (if c = m then A else A.map (·.add (m * 1))) (n - m) (bv (l.drop m)) := by
  have := h.drop hm hc
  rwa [bv_drop, show l.drop (m * 1) = l.drop m by rw [Nat.mul_one]] at this
end Go.Proofs.Ytcgcjklpilbndaa

/- More laws on single operations and on memory for walks. It proves no statement by itself. -/
set_option linter.unusedSimpArgs false
set_option linter.unusedVariables false
namespace Go.Proofs.Ytcgcjklpilbndaa.E
open Go Go.RowKit

/-! ### A callee that turns some of the caller's own blocks -/
def blank {α : Type} (z : α) (l : List α) (is : List Nat) : List α := is.foldl (fun l i => l.set i z) l
section
variable {w0 w w' : World} {ex ex' : List Nat} {ks ks' : List (Option Nat)} {ps ps' : List (Option Obj → Prop)}
theorem St.forget (S : St w0 w ex ks ps) (i : Nat) : St w0 w ex (ks.set i none) (ps.set i fun _ => True) := by
  refine ⟨S.os, S.tape, S.output, S.size, S.old, fun j k p h h' => ?_, fun b h => ?_, fun b h => ?_, fun j j' b h h' => ?_⟩
  · by_cases hij : i = j
    · subst hij
      have hl : i < ps.length := by have := (List.getElem?_eq_some_iff.1 h').1; simpa using this
      rw [List.getElem?_set_self hl] at h'
      cases h'
      trivial
    · rw [List.getElem?_set_ne hij] at h h'
      exact S.own j k p h h'
  · rcases List.mem_or_eq_of_mem_set h with h | h
    · exact S.lt b h
    · cases h
  · rcases List.mem_or_eq_of_mem_set h with h | h
    · exact S.fresh b h
    · cases h
  · have key : ∀ j : Nat, (ks.set i none)[j]? = some (some b) → ks[j]? = some (some b) := by
      intro j h
      by_cases hij : i = j
      · subst hij
        have hl : i < ks.length := by have := (List.getElem?_eq_some_iff.1 h).1; simpa using this
        rw [List.getElem?_set_self hl] at h
        cases h
      · rwa [List.getElem?_set_ne hij] at h
    exact S.nodup j j' b (key j h) (key j' h')
theorem St.forget_not (S : St w0 w ex ks ps) {i b : Nat} (h : ks[i]? = some (some b)) : some b ∉ ks.set i none := by
  intro hm
  obtain ⟨j, hj⟩ := List.getElem?_of_mem hm
  by_cases hij : i = j
  · subst hij
    have hl : i < ks.length := by have := (List.getElem?_eq_some_iff.1 hj).1; simpa using this
    rw [List.getElem?_set_self hl] at hj
    cases hj
  · rw [List.getElem?_set_ne hij] at hj
    exact hij (S.nodup i j b h hj)
theorem not_mem_set {b i : Nat} (h : some b ∉ ks) : some b ∉ ks.set i none := by
  intro hm
  rcases List.mem_or_eq_of_mem_set hm with h' | h'
  · exact h h'
  · cases h'
theorem not_mem_blank {b : Nat} : ∀ {is : List Nat} {ks : List (Option Nat)}, some b ∉ ks → some b ∉ blank none ks is
  | [], _, h => h
  | i :: is, ks, h => not_mem_blank (is := is) (ks := ks.set i none) (not_mem_set h)
theorem St.blank : ∀ {is : List Nat} {ks : List (Option Nat)} {ps : List (Option Obj → Prop)}, St w0 w ex ks ps → St w0 w ex (blank none ks is) (blank (fun _ => True) ps is) ∧ ∀ i ∈ is, ∀ b, ks[i]? = some (some b) → some b ∉ E.blank none ks is
  | [], _, _, S => ⟨S, by simp⟩
  | i :: is, ks, ps, S => by
    obtain ⟨S', h'⟩ := St.blank (is := is) (S.forget i)
    refine ⟨S', fun j hj b hb => ?_⟩
    by_cases hji : j = i
    · subst hji
      exact not_mem_blank (ks := ks.set j none) (S.forget_not hb)
    · rcases List.mem_cons.1 hj with h | h
      · exact absurd h hji
      · exact h' j h b (by rw [List.getElem?_set_ne (Ne.symm hji)]; exact hb)
/-- the callee's own and the blocks it turned, put ahead of what the caller has -/
theorem St.keep (S : St w0 w ex ks ps) (T : St w w' ex' ks' ps') (hl : ps'.length = ks'.length) (hx : ∀ b ∈ ex', some b ∉ ks ∧ (w0.heap.size ≤ b ∨ b ∈ ex)) : St w0 w' ex (ks' ++ ks) (ps' ++ ps) := by
  have hfr : ∀ b, some b ∈ ks' → w0.heap.size ≤ b ∨ b ∈ ex := fun b h => (T.fresh b h).elim (fun h => .inl (Nat.le_trans S.size h)) fun h => (hx b h).2
  have hne : ∀ b, some b ∈ ks' → some b ∉ ks := by
    intro b h h'
    rcases T.fresh b h with h1 | h1
    · have := S.lt b h'
      omega
    · exact (hx b h1).1 h'
  refine ⟨T.os.trans S.os, T.tape.trans S.tape, T.output.trans S.output, Nat.le_trans S.size T.size, fun k hk hkx => ?_, fun i k p' h h' => ?_, fun b h => ?_, fun b h => ?_, fun i j b h h' => ?_⟩
  · have : k ∉ ex' := by
      intro h
      rcases (hx k h).2 with h1 | h1
      · omega
      · exact hkx h1
    rw [T.old k (Nat.lt_of_lt_of_le hk S.size) this, S.old k hk hkx]
  · rcases Nat.lt_or_ge i ks'.length with hi | hi
    · rw [List.getElem?_append_left hi] at h
      rw [List.getElem?_append_left (by omega)] at h'
      exact T.own i k p' h h'
    · rw [List.getElem?_append_right hi] at h
      rw [List.getElem?_append_right (by omega), hl] at h'
      have := S.own _ k p' h h'
      cases k with
      | none => exact this
      | some b =>
        have hm := List.mem_of_getElem? h
        have hnx : b ∉ ex' := fun hb => (hx b hb).1 hm
        simpa [T.old b (S.lt b hm) hnx] using this
  · rcases List.mem_append.1 h with h | h
    · exact T.lt b h
    · exact Nat.lt_of_lt_of_le (S.lt b h) T.size
  · rcases List.mem_append.1 h with h | h
    · exact hfr b h
    · exact S.fresh b h
  · rcases Nat.lt_or_ge i ks'.length with hi | hi <;> rcases Nat.lt_or_ge j ks'.length with hj | hj
    · rw [List.getElem?_append_left hi] at h
      rw [List.getElem?_append_left hj] at h'
      exact T.nodup i j b h h'
    · rw [List.getElem?_append_left hi] at h
      rw [List.getElem?_append_right hj] at h'
      exact absurd (List.mem_of_getElem? h') (hne b (List.mem_of_getElem? h))
    · rw [List.getElem?_append_right hi] at h
      rw [List.getElem?_append_left hj] at h'
      exact absurd (List.mem_of_getElem? h) (hne b (List.mem_of_getElem? h'))
    · rw [List.getElem?_append_right hi] at h
      rw [List.getElem?_append_right hj] at h'
      have := S.nodup _ _ b h h'
      omega
theorem St.sub (S : St w0 w ex ks ps) (T : St w w' ex' ks' ps') (is : List Nat) (hl : ps'.length = ks'.length) (hx : ∀ b ∈ ex', ∃ i ∈ is, ks[i]? = some (some b)) :
    St w0 w' ex (ks' ++ E.blank none ks is) (ps' ++ E.blank (fun _ => True) ps is) := by
  obtain ⟨S', h'⟩ := S.blank (is := is)
  refine S'.keep T hl fun b hb => ?_
  obtain ⟨i, hi, hk⟩ := hx b hb
  exact ⟨h' i hi b hk, S.fresh b (List.mem_of_getElem? hk)⟩
theorem St.sub1 (S : St w0 w ex ks ps) (i : Nat) {b : Nat} (T : St w w' [b] ks' ps') (hk : ks[i]? = some (some b)) (hl : ps'.length = ks'.length) :
    St w0 w' ex (ks' ++ ks.set i none) (ps' ++ ps.set i fun _ => True) :=
  S.sub T [i] hl fun c hc => ⟨i, by simp, by rw [List.mem_singleton.1 hc]; exact hk⟩
theorem St.as1 {k : Option Nat} {e : TypeId} {s n c : Nat} {xs ys : List Value} (S : St w0 w ex [k] [Rw e s n c xs]) (h : xs = ys) : St w0 w ex [k] [Rw e s n c ys] := h ▸ S
theorem St.asEx {e : TypeId} {cs cs' : Array Value} (S : St w0 w ex ks (Ex cs e :: ps)) (h : cs = cs') : St w0 w ex ks (Ex cs' e :: ps) := h ▸ S
theorem St.ne (S : St w0 w ex ks ps) (i j : Nat) {a b : Nat} (hi : ks[i]? = some (some a)) (hj : ks[j]? = some (some b)) (hij : i ≠ j) : a ≠ b := by
  rintro rfl
  exact hij (S.nodup i j a hi hj)
theorem St.at_ne (S : St w0 w ex ks ps) (i j : Nat) {k : Option Nat} {b : Nat} (hi : ks[i]? = some k) (hj : ks[j]? = some (some b)) (hij : i ≠ j) : ∀ ad, at_ k = some ad → ad.block ≠ b := by
  rintro ad h rfl
  cases k with
  | none => cases h
  | some a =>
    cases h
    exact hij (S.nodup i j a hi hj)
theorem St.capRw (S : St w0 w ex ks ps) (i : Nat) {k : Option Nat} {e : TypeId} {size n cap : Nat} {xs : List Value} (hk : ks[i]? = some k) (hp : ps[i]? = some (Rw e size n cap xs)) : n ≤ cap := by
  obtain ⟨_, h⟩ := S.own i _ _ hk hp
  rcases h with ⟨_, h1, h2⟩ | ⟨_, _, h, _⟩ <;> omega
theorem sl_block {A : Option Addr} {c m k b : Nat} (h : ∀ ad, A = some ad → ad.block ≠ b) : ∀ ad, (if c = m then A else A.map (·.add k)) = some ad → ad.block ≠ b := by
  intro ad e
  split at e
  · exact h ad e
  · obtain ⟨a, ha, rfl⟩ := Option.map_eq_some_iff.1 e
    have := h a ha
    have hb : (a.add k).block = a.block := by unfold Addr.add; split <;> rfl
    rw [hb]
    exact this
/-- what is read stays, but for blocks that a callee turns -/
theorem Rd.keep {size n : Nat} {A : Option Addr} {xs : List Value} (h : Rd w size A n xs) (T : St w w' ex' ks' ps') (hA : ∀ ad, A = some ad → ad.block ∉ ex') : Rd w' size A n xs :=
  ⟨h.1, fun j u hu => by
    obtain ⟨ad, e, hc⟩ := h.2 j u hu
    refine ⟨ad, e, (World.cell?_of_block (w := w) ?_).trans hc⟩
    have : (ad.add j).block = ad.block := by unfold Addr.add; split <;> rfl
    have hlt := World.block_lt_of_cell? w _ hc
    rw [this] at hlt ⊢
    exact T.old _ hlt (hA ad e)⟩
end

/-! ### Operations -/
section
variable {P : Program} {ρ : Operand → Value} {d : Option Tmp} {x y : Operand} {t ty yt : TypeId} {ps : String} {af : Array Edge} {g : Option (Nat × Bool)} {w w0 : World} {k : IntKind} {a b : Int} {m n : Nat} {ex : List Nat} {ks : List (Option Nat)} {pp : List (Option Obj → Prop)}
theorem el_of {e : TypeId} {size bytes : Nat} (h : (P.info? e).map (fun i => (i.size, i.bytes, i.zero.map (·.cells.size))) = some (size, bytes, some size)) (hp : 0 < size) : El P e size bytes := by
  obtain ⟨i, hi, e1⟩ := Option.map_eq_some_iff.1 h
  injection e1 with e1 e2
  injection e2 with e2 e3
  obtain ⟨z, hz, e4⟩ := Option.map_eq_some_iff.1 e3
  exact ⟨⟨i, z, hi, hz, e1, e2, e4⟩, hp⟩
theorem wrapU64 (n : Nat) : IntKind.u64.wrap (n : Int) = ((n % 18446744073709551616 : Nat) : Int) := by
  show ((BitVec.ofInt 64 (n : Int)).toNat : Int) = _
  rw [ofInt_nat]
theorem e_conv8 {u : TypeDesc} {s : TypeId} (hx : ρ x = .int k (m : Int)) (hs : P.underlying s = some u) (hu : u ≠ .unsafePointer) (ht : P.underlying t = some (.int .u8)) : (execOp ρ { dst := d, op := .convert s t x, type := ty, pos := ps, after := af, guard := g }).run P w = .ok (.value (.int .u8 ((m % 256 : Nat) : Int))) w :=
  e_conv_in hx hs hu ht (wrap8_nat m)
theorem e_convU64 {u : TypeDesc} {s : TypeId} (hx : ρ x = .int k (m : Int)) (hs : P.underlying s = some u) (hu : u ≠ .unsafePointer) (ht : P.underlying t = some (.int .u64)) : (execOp ρ { dst := d, op := .convert s t x, type := ty, pos := ps, after := af, guard := g }).run P w = .ok (.value (.int .u64 ((m % 18446744073709551616 : Nat) : Int))) w :=
  e_conv_in hx hs hu ht (wrapU64 m)
theorem e_mulU64 (hx : ρ x = .int .u64 (m : Int)) (hy : ρ y = .int .u64 (n : Int)) : (execOp ρ { dst := d, op := .binOp .mul t x y yt, type := ty, pos := ps, after := af, guard := g }).run P w = .ok (.value (.int .u64 ((m * n % 18446744073709551616 : Nat) : Int))) w :=
  e_int .mul hx hy fun w => by
    have h : IntKind.u64.wrap ((m : Int) * (n : Int)) = ((m * n % 18446744073709551616 : Nat) : Int) := by rw [← Int.natCast_mul]; exact wrapU64 _
    show (Op.intArith .mul .u64 (m : Int) (n : Int)).run P w = _
    unfold Op.intArith
    simp only [h, Sem.run_pure]
theorem e_index {cs : List Value} {len : Nat} {i : Int} {e : TypeId} {v : Value} (hx : ρ x = .agg cs.toArray) (hy : ρ y = .int k i) (hu : P.underlying t = some (.array len e)) (ha : Ag P e false) (hs : Sz P e 1) (hi : 0 ≤ i ∧ i < len) (hv : cs[i.toNat]? = some v) :
    (execOp ρ { dst := d, op := .index t x y, type := ty, pos := ps, after := af, guard := g }).run P w = .ok (.value v) w := by
  have ha' := ha w
  have hs' := hs w
  simp [execOp, hx, hy, Instr.index, asIntOf, run_underlying hu, hi, hs', part, ha', hv]
theorem e_max (hx : ρ x = .int k a) (hy : ρ y = .int k b) : (execOp ρ { dst := d, op := .call { callee := .builtin .max, args := #[x, y], argTypes := #[t, yt] }, type := ty, pos := ps, after := af, guard := g }).run P w = .ok (.value (.int k (if b > a then b else a))) w := by
  show ((do pure (.value (← Builtin.max_ #[t, yt] ty (#[x, y].map ρ)))) : Sem Next).run P w = _
  simp [Builtin.max_, Builtin.max2, hx, hy]
theorem one_flat {size : Nat} : ∀ (vs : List Value), (∀ v ∈ vs, v.oneCell' = true) → (vs.flatMap fun v => v.cells.toList) = vs
  | [], _ => rfl
  | v :: vs, h => by
    have hv := h v (by simp)
    have : v.cells.toList = [v] := by cases v <;> simp_all [Value.oneCell', Value.cells]
    rw [List.flatMap_cons, this, one_flat (size := size) vs fun u hu => h u (by simp [hu])]
    rfl
theorem one_size {v : Value} (h : v.oneCell' = true) : v.cells.size = 1 := by cases v <;> simp_all [Value.oneCell', Value.cells]
/-- a literal of one-celled parts -/
theorem d_lit1 {e : TypeId} {n : Nat} {parts : List (Nat × Operand)} {vs : List Value} {z : Value} (S : St w0 w ex ks pp) (hu : P.underlying t = some (.slice e)) (hs : Sz P e 1) (hz : Zv P e z) (hsz : z.cells.size = 1)
    (hp : parts.map (fun q => (q.1, ρ q.2)) = (List.range' 0 n).zip vs) (hn : vs.length = n) (hv : vs.all (fun v => v.oneCell') = true) (hlim : n ≤ 16777216) :
    Does P ρ { dst := d, op := .buildSlice t n parts.toArray, type := ty, pos := ps, after := af, guard := g } w
      fun v w' => ∃ b, v = .slice (at_ (some b)) n n ∧ St w0 w' ex (some b :: ks) (Rw e 1 n n vs :: pp) := by
  have hv := List.all_eq_true.1 hv
  have h := d_lit (P := P) (ρ := ρ) (d := d) (ty := ty) (ps := ps) (af := af) (g := g) S hu hs hz hsz (by decide) hp hn (fun v h => one_size (hv v h)) (by omega)
  rwa [one_flat (size := 1) vs hv] at h
theorem d_litB {e : TypeId} {n : Nat} {parts : List (Nat × Operand)} {l : List Nat} {z : Value} (S : St w0 w ex ks pp) (hu : P.underlying t = some (.slice e)) (hs : Sz P e 1) (hz : Zv P e z) (hsz : z.cells.size = 1)
    (hp : parts.map (fun q => (q.1, ρ q.2)) = (List.range' 0 n).zip (bv l)) (hn : l.length = n) (hlim : n ≤ 16777216) :
    Does P ρ { dst := d, op := .buildSlice t n parts.toArray, type := ty, pos := ps, after := af, guard := g } w
      fun v w' => ∃ b, v = .slice (at_ (some b)) n n ∧ St w0 w' ex (some b :: ks) (Rw e 1 n n (bv l) :: pp) :=
  d_lit1 S hu hs hz hsz hp (by simpa using hn) (List.all_eq_true.2 (bv_one l)) hlim

/-! ### Equality of values of several cells -/
/-- Two values of a type with cells as T tells are compared cell by cell. -/
def EqT (P : Program) (j : Nat) (t : TypeId) (T : List Value → Prop) : Prop :=
  ∀ (d : Nat) (w : World) (xs ys : List Value), T xs → T ys → ∃ r : Bool, (Op.equalIn (d + j) t (.agg xs.toArray) (.agg ys.toArray)).run P w = .ok r w ∧ (r = true ↔ xs = ys)
def IntT (k : IntKind) (n : Nat) (xs : List Value) : Prop := xs.length = n ∧ ∀ v ∈ xs, ∃ a, v = .int k a
theorem IntT.bv (l : List Nat) {n : Nat} (h : l.length = n) : IntT .u8 n (bv l) := ⟨by simpa using h, fun v hv => by
  obtain ⟨x, _, rfl⟩ := List.mem_map.1 hv
  exact ⟨_, rfl⟩⟩
theorem eqItems_int {e : TypeId} (hu : P.underlying e = some (.int k)) (ha : Ag P e false) (d : Nat) (xs ys : List Value) (hx : ∀ v ∈ xs, ∃ a, v = .int k a) (hy : ∀ v ∈ ys, ∃ a, v = .int k a) (hl : xs.length = ys.length) :
    ∀ (n i : Nat), i + n = xs.length → ∃ r : Bool, (Op.eqItems (d + 1) e 1 xs.toArray ys.toArray (List.range' i n)).run P w = .ok r w ∧ (r = true ↔ xs.drop i = ys.drop i)
  | 0, i, h => ⟨true, by simp [Op.eqItems], by rw [List.drop_of_length_le (by omega), List.drop_of_length_le (by omega)]; simp⟩
  | n + 1, i, h => by
    have h1 : i < xs.length := by omega
    have h2 : i < ys.length := by omega
    obtain ⟨a, ea⟩ := hx xs[i] (List.getElem_mem h1)
    obtain ⟨b, eb⟩ := hy ys[i] (List.getElem_mem h2)
    have p1 : (part e xs.toArray (i * 1)).run P w = .ok (.int k a) w := by
      have ha' := ha w
      simp [part, ha', List.getElem?_eq_getElem h1, ea]
    have p2 : (part e ys.toArray (i * 1)).run P w = .ok (.int k b) w := by
      have ha' := ha w
      simp [part, ha', List.getElem?_eq_getElem h2, eb]
    have p3 : (Op.equalIn (d + 1) e (.int k a) (.int k b)).run P w = .ok (a == b) w := by simp [Op.equalIn, run_underlying hu]
    obtain ⟨r, hr, hiff⟩ := eqItems_int hu ha d xs ys hx hy hl n (i + 1) (by omega)
    rw [List.range'_succ]
    have e1 : xs.drop i = .int k a :: xs.drop (i + 1) := by rw [List.drop_eq_getElem_cons h1, ea]
    have e2 : ys.drop i = .int k b :: ys.drop (i + 1) := by rw [List.drop_eq_getElem_cons h2, eb]
    simp only [Op.eqItems, Sem.run_bind, p1, p2, p3, Result.andThen_ok]
    by_cases hab : a = b
    · refine ⟨r, by simpa [hab] using hr, ?_⟩
      rw [hiff, e1, e2, hab]
      simp
    · refine ⟨false, by simp [hab], ?_⟩
      rw [e1, e2]
      simp [hab]
theorem EqT.ints {e : TypeId} {n : Nat} (ht : P.underlying t = some (.array n e)) (hu : P.underlying e = some (.int k)) (ha : Ag P e false) (hs : Sz P e 1) : EqT P 2 t (IntT k n) := by
  intro d w xs ys hx hy
  obtain ⟨i, hi⟩ := info_of_underlying hu
  have hc : P.cellsOf e = 1 := by
    have := hs w
    rw [run_sizeOf w hi] at this
    injection this
  obtain ⟨r, hr, hiff⟩ := eqItems_int (w := w) hu ha d xs ys hx.2 hy.2 (hx.1.trans hy.1.symm) n 0 (by rw [hx.1]; omega)
  refine ⟨r, ?_, by simpa using hiff⟩
  rw [show d + 2 = (d + 1) + 1 from rfl, run_equalIn_array w (d + 1) xs.toArray ys.toArray ht hi, hc, List.range_eq_range']
  exact hr
theorem bin_eql {v v' : Value} {r : Bool} (h : (Op.equalIn (9999 + 1) t v v').run P w = .ok r w) (hb : ∀ op : BinOp, op = .eql → binOp op t v v' = do pure (.bool (← Op.equal t v v'))) : (binOp .eql t v v').run P w = .ok (.bool r) w := by
  rw [hb .eql rfl]
  simp only [Op.equal, Op.maxDepth]
  simp [h]
theorem bin_neq {v v' : Value} {r : Bool} (h : (Op.equalIn (9999 + 1) t v v').run P w = .ok r w) (hb : ∀ op : BinOp, op = .neq → binOp op t v v' = do pure (.bool (!(← Op.equal t v v')))) : (binOp .neq t v v').run P w = .ok (.bool !r) w := by
  rw [hb .neq rfl]
  simp only [Op.equal, Op.maxDepth]
  simp [h]
theorem EqT.run {j : Nat} {T : List Value → Prop} (h : EqT P j t T) (hj : j ≤ 10000) (hg : P.eqGuardType P.depth t = false) {xs ys : List Value} (hx : ρ x = .agg xs.toArray) (hy : ρ y = .agg ys.toArray) (tx : T xs) (ty' : T ys) {r : Bool} (hr : r = true ↔ xs = ys) :
    (execOp ρ { dst := d, op := .binOp .eql t x y yt, type := ty, pos := ps, after := af, guard := g }).run P w = .ok (.value (.bool r)) w := by
  refine run_bin (fun w => ?_) (fun w => ?_)
  · obtain ⟨r', h', hiff⟩ := h (10000 - j) w xs ys tx ty'
    rw [show 10000 - j + j = 10000 by omega] at h'
    have : r = r' := by cases r <;> cases r' <;> simp_all
    subst this
    rw [hx, hy]
    exact bin_eql h' fun op h => by subst h; rfl
  · rw [hx, hy]
    simp [eqGuard, hg]
theorem EqT.runN {j : Nat} {T : List Value → Prop} (h : EqT P j t T) (hj : j ≤ 10000) (hg : P.eqGuardType P.depth t = false) {xs ys : List Value} (hx : ρ x = .agg xs.toArray) (hy : ρ y = .agg ys.toArray) (tx : T xs) (ty' : T ys) {r : Bool} (hr : r = true ↔ ¬ xs = ys) :
    (execOp ρ { dst := d, op := .binOp .neq t x y yt, type := ty, pos := ps, after := af, guard := g }).run P w = .ok (.value (.bool r)) w := by
  refine run_bin (fun w => ?_) (fun w => ?_)
  · obtain ⟨r', h', hiff⟩ := h (10000 - j) w xs ys tx ty'
    rw [show 10000 - j + j = 10000 by omega] at h'
    have : r = !r' := by cases r <;> cases r' <;> simp_all
    subst this
    rw [hx, hy]
    exact bin_neq h' fun op h => by subst h; rfl
  · rw [hx, hy]
    simp [eqGuard, hg]
theorem equalB (d : Nat) (w : World) {u v : Bool} (ht : P.underlying t = some .bool) : (Op.equalIn (d + 1) t (.bool u) (.bool v)).run P w = .ok (u == v) w := by simp [Op.equalIn, run_underlying ht]
theorem equalP (d : Nat) (w : World) {u : Option Addr} {e : TypeId} (ht : P.underlying t = some (.pointer e)) : (Op.equalIn (d + 1) t (.pointer u) (.pointer none)).run P w = .ok u.isNone w := by
  cases u <;> simp [Op.equalIn, run_underlying ht]
theorem e_eqlB {u v : Bool} (hx : ρ x = .bool u) (hy : ρ y = .bool v) (ht : P.underlying t = some .bool) : (execOp ρ { dst := d, op := .binOp .eql t x y yt, type := ty, pos := ps, after := af, guard := g }).run P w = .ok (.value (.bool (u == v))) w :=
  run_bin (fun w => by rw [hx, hy]; exact bin_eql (equalB 9999 w ht) fun op h => by subst h; rfl) (fun w => by rw [hx, hy]; rfl)
theorem e_neqB {u v : Bool} (hx : ρ x = .bool u) (hy : ρ y = .bool v) (ht : P.underlying t = some .bool) : (execOp ρ { dst := d, op := .binOp .neq t x y yt, type := ty, pos := ps, after := af, guard := g }).run P w = .ok (.value (.bool (!(u == v)))) w :=
  run_bin (fun w => by rw [hx, hy]; exact bin_neq (equalB 9999 w ht) fun op h => by subst h; rfl) (fun w => by rw [hx, hy]; rfl)
theorem EqT.sum {a b : List Nat} (h : EqT P 2 t (IntT .u8 n)) (hg : P.eqGuardType P.depth t = false) (hx : ρ x = .agg (bv a).toArray) (hy : ρ y = .agg (bv b).toArray) (ha : a.length = n) (hb : b.length = n) :
    (execOp ρ { dst := d, op := .binOp .eql t x y yt, type := ty, pos := ps, after := af, guard := g }).run P w = .ok (.value (.bool (decide (a = b)))) w :=
  h.run (by decide) hg hx hy (IntT.bv a ha) (IntT.bv b hb) (by simp [bv_eq])
theorem EqT.sumN {a b : List Nat} (h : EqT P 2 t (IntT .u8 n)) (hg : P.eqGuardType P.depth t = false) (hx : ρ x = .agg (bv a).toArray) (hy : ρ y = .agg (bv b).toArray) (ha : a.length = n) (hb : b.length = n) :
    (execOp ρ { dst := d, op := .binOp .neq t x y yt, type := ty, pos := ps, after := af, guard := g }).run P w = .ok (.value (.bool (decide (¬ a = b)))) w :=
  h.runN (by decide) hg hx hy (IntT.bv a ha) (IntT.bv b hb) (by simp [bv_eq])
/-- a pointer is, or is not, nil -/
theorem e_eqlP {u : Option Addr} {e : TypeId} (hx : ρ x = .pointer u) (hy : ρ y = .pointer none) (ht : P.underlying t = some (.pointer e)) : (execOp ρ { dst := d, op := .binOp .eql t x y yt, type := ty, pos := ps, after := af, guard := g }).run P w = .ok (.value (.bool u.isNone)) w :=
  run_bin (fun w => by rw [hx, hy]; exact bin_eql (equalP 9999 w ht) fun op h => by subst h; rfl) (fun w => by rw [hx, hy]; rfl)
theorem e_neqP {u : Option Addr} {e : TypeId} (hx : ρ x = .pointer u) (hy : ρ y = .pointer none) (ht : P.underlying t = some (.pointer e)) : (execOp ρ { dst := d, op := .binOp .neq t x y yt, type := ty, pos := ps, after := af, guard := g }).run P w = .ok (.value (.bool (!u.isNone))) w :=
  run_bin (fun w => by rw [hx, hy]; exact bin_neq (equalP 9999 w ht) fun op h => by subst h; rfl) (fun w => by rw [hx, hy]; rfl)
theorem e_eqlS {u v : ByteArray} (hx : ρ x = .string u) (hy : ρ y = .string v) : (execOp ρ { dst := d, op := .binOp .eql t x y yt, type := ty, pos := ps, after := af, guard := g }).run P w = .ok (.value (.bool (u == v))) w :=
  run_bin (fun w => by rw [hx, hy]; simp [binOp, Op.stringOp, beq_toListBytes, bne]) (fun w => by rw [hx, hy]; rfl)
theorem e_neqS {u v : ByteArray} (hx : ρ x = .string u) (hy : ρ y = .string v) : (execOp ρ { dst := d, op := .binOp .neq t x y yt, type := ty, pos := ps, after := af, guard := g }).run P w = .ok (.value (.bool (u != v))) w :=
  run_bin (fun w => by rw [hx, hy]; simp [binOp, Op.stringOp, beq_toListBytes, bne]) (fun w => by rw [hx, hy]; rfl)
end
end Go.Proofs.Ytcgcjklpilbndaa.E

/- More laws for walks: lists of slices that are read. It proves no statement by itself. -/
set_option linter.unusedSimpArgs false
set_option linter.unusedVariables false
namespace Go.Proofs.Ytcgcjklpilbndaa.E
open Go Go.RowKit
section
variable {w0 w w' : World} {ex ex' : List Nat} {ks ks' : List (Option Nat)} {ps ps' : List (Option Obj → Prop)}
theorem St.asRw {k : Option Nat} {e : TypeId} {s n c : Nat} {xs ys : List Value} (S : St w0 w ex (k :: ks) (Rw e s n c xs :: ps)) (h : xs = ys) : St w0 w ex (k :: ks) (Rw e s n c ys :: ps) := h ▸ S
theorem Rd.cell1 {n : Nat} {ad : Addr} {xs : List Value} (h : Rd w 1 (some ad) n xs) {j : Nat} {u : Value} (hu : xs[j]? = some u) : w.cell? (ad.add ((j : Int).toNat * 1)) = some u := by
  rw [Int.toNat_natCast, Nat.mul_one]
  exact h.cell hu
/-- A slice of slices of bytes. -/
def Parts (w : World) (A : Option Addr) (ls : List (List Nat)) : Prop :=
  ∃ vs : List Value, Rd w 1 A ls.length vs ∧ ∀ (j : Nat) (v : Value), vs[j]? = some v → ∃ Ai ci, v = .slice Ai (ls.getD j []).length ci ∧ Rd w 1 Ai (ls.getD j []).length (bv (ls.getD j []))
theorem Parts.below {A : Option Addr} {ls : List (List Nat)} (h : Parts w A ls) (hb : Below w.heap.size w w') : Parts w' A ls := by
  obtain ⟨vs, h1, h2⟩ := h
  refine ⟨vs, h1.below hb, fun j v hv => ?_⟩
  obtain ⟨Ai, ci, e, h3⟩ := h2 j v hv
  exact ⟨Ai, ci, e, h3.below hb⟩
theorem Parts.one {A A1 : Option Addr} {n1 c1 : Nat} {l1 : List Nat} (R : Rd w 1 A 1 [.slice A1 n1 c1]) (R1 : Rd w 1 A1 n1 (bv l1)) : Parts w A [l1] := by
  have e1 : l1.length = n1 := by simpa using R1.1
  subst e1
  refine ⟨_, R, fun j v hv => ?_⟩
  match j, hv with
  | 0, hv => cases hv; exact ⟨A1, c1, rfl, R1⟩
  | j + 1, hv => simp at hv
theorem Parts.two {A A1 A2 : Option Addr} {n1 c1 n2 c2 : Nat} {l1 l2 : List Nat} (R : Rd w 1 A 2 [.slice A1 n1 c1, .slice A2 n2 c2]) (R1 : Rd w 1 A1 n1 (bv l1)) (R2 : Rd w 1 A2 n2 (bv l2)) : Parts w A [l1, l2] := by
  have e1 : l1.length = n1 := by simpa using R1.1
  have e2 : l2.length = n2 := by simpa using R2.1
  subst e1 e2
  refine ⟨_, R, fun j v hv => ?_⟩
  match j, hv with
  | 0, hv => cases hv; exact ⟨A1, c1, rfl, R1⟩
  | 1, hv => cases hv; exact ⟨A2, c2, rfl, R2⟩
  | j + 2, hv => simp at hv
theorem Parts.three {A A1 A2 A3 : Option Addr} {n1 c1 n2 c2 n3 c3 : Nat} {l1 l2 l3 : List Nat} (R : Rd w 1 A 3 [.slice A1 n1 c1, .slice A2 n2 c2, .slice A3 n3 c3]) (R1 : Rd w 1 A1 n1 (bv l1)) (R2 : Rd w 1 A2 n2 (bv l2)) (R3 : Rd w 1 A3 n3 (bv l3)) : Parts w A [l1, l2, l3] := by
  have e1 : l1.length = n1 := by simpa using R1.1
  have e2 : l2.length = n2 := by simpa using R2.1
  have e3 : l3.length = n3 := by simpa using R3.1
  subst e1 e2 e3
  refine ⟨_, R, fun j v hv => ?_⟩
  match j, hv with
  | 0, hv => cases hv; exact ⟨A1, c1, rfl, R1⟩
  | 1, hv => cases hv; exact ⟨A2, c2, rfl, R2⟩
  | 2, hv => cases hv; exact ⟨A3, c3, rfl, R3⟩
  | j + 3, hv => simp at hv
/-- an array of bytes of its own, as a slice -/
theorem St.rdBytes (S : St w0 w ex ks ps) (i : Nat) {b : Nat} {l : List Nat} {t : TypeId} {n : Nat} (hk : ks[i]? = some (some b)) (hp : ps[i]? = some (Ex (bv l).toArray t)) (hn : l.length = n) : Rd w 1 (some ⟨b, 0, none⟩) n (bv l) :=
  S.rdEx i hk hp (by simp [hn])
end
section
variable {P : Program} {ρ : Operand → Value} {d : Option Tmp} {x y : Operand} {t ty yt : TypeId} {ps : String} {af : Array Edge} {g : Option (Nat × Bool)} {w : World} {a b : Int} {k : IntKind}
theorem e_max0 (hx : ρ x = .int k a) (hy : ρ y = .int k 0) : (execOp ρ { dst := d, op := .call { callee := .builtin .max, args := #[x, y], argTypes := #[t, yt] }, type := ty, pos := ps, after := af, guard := g }).run P w = .ok (.value (.int k ((a.toNat : Nat) : Int))) w := by
  rw [e_max hx hy, show (if (0 : Int) > a then (0 : Int) else a) = ((a.toNat : Nat) : Int) by split <;> omega]
end
end Go.Proofs.Ytcgcjklpilbndaa.E

/- More laws for walks: calls that turn blocks which the caller has made; chunks of blocks; rows of sums. It proves no statement by itself. -/
set_option linter.unusedSimpArgs false
set_option linter.unusedVariables false
namespace Go.Proofs.Ytcgcjklpilbndaa.E
open Go Go.RowKit
/-! ### A callee is handed blocks of the caller's own -/
def exOf (ks : List (Option Nat)) : List Nat := ks.filterMap id
theorem mem_exOf {ks : List (Option Nat)} {b : Nat} : b ∈ exOf ks ↔ some b ∈ ks := by simp [exOf]
section
variable {w0 w w' : World} {ex ex' : List Nat} {ks ks' : List (Option Nat)} {ps ps' : List (Option Obj → Prop)}
/-- what the caller has, as the callee sees it -/
theorem St.here (S : St w0 w ex ks ps) (σ : List Nat) (hσ : σ.Nodup) (hk : ∀ i ∈ σ, i < ks.length) (hp : ∀ i ∈ σ, i < ps.length) :
    St w w (exOf (σ.map fun i => ks.getD i none)) (σ.map fun i => ks.getD i none) (σ.map fun i => ps.getD i fun _ => True) := by
  have T := S.pick σ hσ hk hp
  exact ⟨rfl, rfl, rfl, Nat.le_refl _, fun _ _ _ => rfl, T.own, T.lt, fun b h => .inr (mem_exOf.2 h), T.nodup⟩
/-- 'pick', its side conditions by computing -/
theorem St.pk (S : St w0 w ex ks ps) (σ : List Nat) (h : (decide σ.Nodup && σ.all fun i => Nat.blt i ks.length && Nat.blt i ps.length) = true) :
    St w0 w ex (σ.map fun i => ks.getD i none) (σ.map fun i => ps.getD i fun _ => True) := by
  simp only [Bool.and_eq_true, decide_eq_true_eq, List.all_eq_true, Nat.blt_eq] at h
  exact S.pick σ h.1 (fun i hi => (h.2 i hi).1) fun i hi => (h.2 i hi).2
theorem St.hr (S : St w0 w ex ks ps) (σ : List Nat) (h : (decide σ.Nodup && σ.all fun i => Nat.blt i ks.length && Nat.blt i ps.length) = true) :
    St w w (exOf (σ.map fun i => ks.getD i none)) (σ.map fun i => ks.getD i none) (σ.map fun i => ps.getD i fun _ => True) := by
  simp only [Bool.and_eq_true, decide_eq_true_eq, List.all_eq_true, Nat.blt_eq] at h
  exact S.here σ h.1 (fun i hi => (h.2 i hi).1) fun i hi => (h.2 i hi).2
/-- the call is over -/
theorem St.call (S : St w0 w ex ks ps) (σ : List Nat) (T : St w w' (exOf (σ.map fun i => ks.getD i none)) ks' ps') (hl : ps'.length = ks'.length) :
    St w0 w' ex (ks' ++ E.blank none ks σ) (ps' ++ E.blank (fun _ => True) ps σ) := by
  refine S.sub T σ hl fun b hb => ?_
  obtain ⟨i, hi, e⟩ := List.mem_map.1 (mem_exOf.1 hb)
  refine ⟨i, hi, ?_⟩
  rw [List.getD_eq_getElem?_getD] at e
  cases h : ks[i]? with
  | none => rw [h] at e; cases e
  | some k => rw [h] at e; exact congrArg some e
theorem Rd.loads {n : Nat} {a : Addr} {xs : List Value} (h : Rd w 1 (some a) n xs) : ∀ (j : Nat) (u : Value), xs[j]? = some u → w.cell? (a.add j) = some u := fun j u hu => h.cell hu
/-- a part of a block of its own -/
theorem St.rdChunk (S : St w0 w ex ks ps) (i : Nat) {b : Nat} {cs : Array Value} {t : TypeId} (hk : ks[i]? = some (some b)) (hp : ps[i]? = some (Ex cs t)) (off : Nat) {size n : Nat} {xs ys zs : List Value} (hcs : cs.toList = ys ++ xs ++ zs) (hy : ys.length = off) (hn : xs.length = n * size) :
    Rd w size (some ((⟨b, 0, none⟩ : Addr).add off)) n xs := by
  refine ⟨hn, fun j u hu => ⟨_, rfl, ?_⟩⟩
  rw [add_add, S.cell i hk hp]
  have hj := (List.getElem?_eq_some_iff.1 hu).1
  rw [← Array.getElem?_toList, hcs, List.append_assoc, List.getElem?_append_right (by omega), List.getElem?_append_left (by omega), show off + j - ys.length = j by omega]
  exact hu
/-! ### Rows of sums -/
def sv (L : List (List Nat)) : List Value := L.flatMap bv
def All32 (L : List (List Nat)) : Prop := ∀ l ∈ L, l.length = 32
theorem sv_one (L : List (List Nat)) : ∀ u ∈ sv L, u.oneCell' = true := by
  intro u hu
  obtain ⟨l, _, h⟩ := List.mem_flatMap.1 hu
  exact bv_one l u h
theorem sv_append (A B : List (List Nat)) : sv (A ++ B) = sv A ++ sv B := by simp [sv]
theorem sv_single (l : List Nat) : sv [l] = bv l := by simp [sv]
theorem sv_length {L : List (List Nat)} (h : All32 L) : (sv L).length = L.length * 32 := by
  induction L with
  | nil => rfl
  | cons l L ih =>
    have h1 : l.length = 32 := h l (by simp)
    have h2 := ih fun x hx => h x (by simp [hx])
    simp only [sv, List.flatMap_cons, List.length_append, bv_length, List.length_cons] at h2 ⊢
    omega
theorem All32.append {A B : List (List Nat)} (h1 : All32 A) (h2 : All32 B) : All32 (A ++ B) := fun l h => (List.mem_append.1 h).elim (h1 l) (h2 l)
theorem All32.getD {L : List (List Nat)} (h : All32 L) {i : Nat} (hi : i < L.length) : (L.getD i []).length = 32 := by
  rw [List.getD_eq_getElem?_getD, List.getElem?_eq_getElem hi]
  exact h _ (List.getElem_mem hi)
/-- L's i-th sum, out of its cells -/
theorem sv_at {L : List (List Nat)} (h : All32 L) {i j : Nat} (hi : i < L.length) (hj : j < 32) : (sv L)[i * 32 + j]? = (bv (L.getD i []))[j]? := by
  induction L generalizing i with
  | nil => simp at hi
  | cons l L ih =>
    have h1 : l.length = 32 := h l (by simp)
    have h2 : All32 L := fun x hx => h x (by simp [hx])
    have e : sv (l :: L) = bv l ++ sv L := by simp [sv]
    rw [e]
    cases i with
    | zero => rw [List.getElem?_append_left (by simp [h1]; omega)]; simp
    | succ i =>
      rw [List.getElem?_append_right (by simp [h1]; omega), bv_length, h1, show (i + 1) * 32 + j - 32 = i * 32 + j by omega, ih h2 (by simpa using hi)]
      simp
theorem Rd.sum {n : Nat} {ad : Addr} {L : List (List Nat)} (R : Rd w 32 (some ad) n (sv L)) (hL : All32 L) {i : Int} (h : 0 ≤ i ∧ i < L.length) : ∀ (j : Nat) (u : Value), (bv (L.getD i.toNat []))[j]? = some u → w.cell? ((ad.add (i.toNat * 32)).add j) = some u := by
  intro j u hu
  have hj : j < 32 := by
    have := (List.getElem?_eq_some_iff.1 hu).1
    rw [bv_length, hL.getD (by omega)] at this
    exact this
  rw [add_add]
  exact R.cell (by rw [sv_at hL (by omega) hj]; exact hu)
theorem Rd.sumRd {n : Nat} {ad : Addr} {L : List (List Nat)} (R : Rd w 32 (some ad) n (sv L)) (hL : All32 L) {i : Int} (h : 0 ≤ i ∧ i < L.length) : Rd w 1 (some (ad.add (i.toNat * 32))) 32 (bv (L.getD i.toNat [])) :=
  ⟨by rw [bv_length, hL.getD (by omega)], fun j u hu => ⟨_, rfl, R.sum hL h j u hu⟩⟩
theorem St.rwSome (S : St w0 w ex ks ps) (i : Nat) {k : Option Nat} {e : TypeId} {size n cap : Nat} {xs : List Value} (hk : ks[i]? = some k) (hp : ps[i]? = some (Rw e size n cap xs)) (h : 0 < n) : ∃ b, k = some b := by
  obtain ⟨_, h'⟩ := S.own i _ _ hk hp
  cases k with
  | none =>
    rcases h' with ⟨_, h1, _⟩ | ⟨_, h1, _⟩
    · omega
    · cases h1
  | some b => exact ⟨b, rfl⟩
/-- parts of a list that is laid in cells -/
theorem flatMap_at {α : Type} {c : α → List Value} {s : Nat} {xs : List α} (h : ∀ x ∈ xs, (c x).length = s) {i j : Nat} {x : α} (hx : xs[i]? = some x) (hj : j < s) : (xs.flatMap c)[i * s + j]? = (c x)[j]? := by
  induction xs generalizing i with
  | nil => simp at hx
  | cons l L ih =>
    have h1 := h l (by simp)
    rw [List.flatMap_cons]
    cases i with
    | zero =>
      obtain rfl : l = x := by simpa using hx
      rw [List.getElem?_append_left (by omega)]
      simp
    | succ i =>
      rw [List.getElem?_append_right (by rw [h1, Nat.add_mul]; omega), h1, show (i + 1) * s + j - s = i * s + j by rw [Nat.add_mul]; omega]
      exact ih (fun x hx => h x (by simp [hx])) (by simpa using hx)
theorem flatMap_len {α : Type} {c : α → List Value} {s : Nat} {xs : List α} (h : ∀ x ∈ xs, (c x).length = s) : (xs.flatMap c).length = xs.length * s := by
  induction xs with
  | nil => simp
  | cons l L ih => rw [List.flatMap_cons, List.length_append, h l (by simp), ih (fun x hx => h x (by simp [hx])), List.length_cons, Nat.add_mul]; omega
theorem Rd.elem {α : Type} {c : α → List Value} {s n : Nat} {ad : Addr} {xs : List α} (R : Rd w s (some ad) n (xs.flatMap c)) (h : ∀ x ∈ xs, (c x).length = s) {i : Nat} {x : α} (hx : xs[i]? = some x) : Rd w 1 (some (ad.add ((i : Int).toNat * s))) s (c x) :=
  ⟨by rw [h x (List.mem_of_getElem? hx), Nat.mul_one], fun j u hu => ⟨_, rfl, by
    have hj : j < s := by
      have := (List.getElem?_eq_some_iff.1 hu).1
      rwa [h x (List.mem_of_getElem? hx)] at this
    rw [add_add, Int.toNat_natCast]
    exact R.cell (by rw [flatMap_at h hx hj]; exact hu)⟩⟩
theorem St.asRwAt (S : St w0 w ex ks ps) (i : Nat) {e : TypeId} {s n n' c : Nat} {xs ys : List Value} (hp : ps[i]? = some (Rw e s n c xs)) (hn : n = n') (h : xs = ys) : St w0 w ex ks (ps.set i (Rw e s n' c ys)) := by
  subst hn h
  exact S.mono i _ _ hp fun o ho => ho
end
section
variable {P : Program} {ρ : Operand → Value} {d : Option Tmp} {x y : Operand} {t ty yt : TypeId} {ps : String} {af : Array Edge} {g : Option (Nat × Bool)} {w w0 : World} {a b : Int} {k : IntKind} {ex : List Nat} {ks : List (Option Nat)} {pp : List (Option Obj → Prop)}
/-- a block of its own, whole -/
theorem e_loadEx {bl s : Nat} {cs : Array Value} {e : TypeId} (hx : ρ x = .pointer (some ⟨bl, 0, none⟩)) (ha : Ag P t true) (hs : Sz P t s) (S : St w0 w ex ks pp) (i : Nat) (hk : ks[i]? = some (some bl)) (hp : pp[i]? = some (Ex cs e)) (hl : cs.size = s) :
    (execOp ρ { dst := d, op := .load t x, type := ty, pos := ps, after := af, guard := g }).run P w = .ok (.value (.agg cs)) w := by
  have h := e_loadN (P := P) (ρ := ρ) (d := d) (x := x) (t := t) (ty := ty) (ps := ps) (af := af) (g := g) (w := w) (cs := cs.toList) hx ha hs (by simpa using hl) (fun j u hu => (S.cell i hk hp j).trans (by simpa using hu))
  simpa using h
theorem All32.single {l : List Nat} (h : l.length = 32) : All32 [l] := by
  intro x hx
  rw [List.mem_singleton.1 hx]
  exact h
theorem sums_flat (L : List (List Nat)) : ((L.map fun l => Value.agg (bv l).toArray).flatMap fun v => v.cells.toList) = sv L := by
  induction L with
  | nil => rfl
  | cons l L ih =>
    rw [List.map_cons, List.flatMap_cons, ih]
    simp [sv, Value.cells]
theorem d_litS {e : TypeId} {n : Nat} {parts : List (Nat × Operand)} {L : List (List Nat)} {z : Value} (S : St w0 w ex ks pp) (hu : P.underlying t = some (.slice e)) (hs : Sz P e 32) (hz : Zv P e z) (hsz : z.cells.size = 32)
    (hp : parts.map (fun q => (q.1, ρ q.2)) = (List.range' 0 n).zip (L.map fun l => Value.agg (bv l).toArray)) (hn : L.length = n) (hL : All32 L) (hlim : n * 32 ≤ 16777216) :
    Does P ρ { dst := d, op := .buildSlice t n parts.toArray, type := ty, pos := ps, after := af, guard := g } w
      fun v w' => ∃ b, v = .slice (at_ (some b)) n n ∧ St w0 w' ex (some b :: ks) (Rw e 32 n n (sv L) :: pp) := by
  have h := d_lit (P := P) (ρ := ρ) (d := d) (ty := ty) (ps := ps) (af := af) (g := g) S hu hs hz hsz (by decide) hp (by simpa using hn) (fun v h => by
    obtain ⟨l, hl, rfl⟩ := List.mem_map.1 h
    simp [Value.cells, hL l hl]) hlim
  rwa [sums_flat] at h
end
/-! ### Cuts and splits -/
section
variable {P : Program} {Q : Exit → Act → World → Prop} {n : Nat} {f : Nat → Value} {w : World} {c : Code}
/-- What a piece of code has done, told by M; then the rest, once. -/
theorem s_cut (M : (Nat → Value) → (Nat → Value) → World → Prop) (h1 : c.wp P (Exit.then (fun a' w' => ∃ f', a' = F n f' ∧ M f f' w') Q) (F n f) w) (h2 : ∀ f' w', M f f' w' → Q .normal (F n f') w') : c.wp P Q (F n f) w := by
  refine Code.wp_mono (fun e a' w' h => ?_) h1
  cases e with
  | normal =>
    obtain ⟨f', rfl, hm⟩ := h
    exact h2 f' w' hm
  | _ => exact h
variable {ops : Array Oper} {S : World → Prop} {N : Act → World → Prop} {rest : List Oper} {rest' : List (Bool × Oper)} {w' : World} {d0 : Option Tmp} {op0 : Op} {ty0 : TypeId} {ps0 : String} {af0 : Array Edge} {g0 : Option (Nat × Bool)} {p : Prop} [Decidable p] {j d : Nat} {want b b' : Bool} {oj : Oper}
theorem p_valB (hr : (execOp (ev n f) { dst := d0, op := op0, type := ty0, pos := ps0, after := af0, guard := g0 }).run P w = .ok (.value (.bool (decide p))) w') (hg : g0 = none) (h1 : p → wpList P ops Q rest (F n (updo f d0 (.bool true))) w') (h2 : ¬ p → wpList P ops Q rest (F n (updo f d0 (.bool false))) w') :
    wpList P ops Q ({ dst := d0, op := op0, type := ty0, pos := ps0, after := af0, guard := g0 } :: rest) (F n f) w := by
  by_cases h : p
  · exact p_val (by rw [hr, decide_eq_true h]) hg (h1 h)
  · exact p_val (by rw [hr, decide_eq_false h]) hg (h2 h)
theorem p_valb (hr : (execOp (ev n f) { dst := d0, op := op0, type := ty0, pos := ps0, after := af0, guard := g0 }).run P w = .ok (.value (.bool b)) w') (hg : g0 = none) (h1 : b = true → wpList P ops Q rest (F n (updo f d0 (.bool true))) w') (h2 : b = false → wpList P ops Q rest (F n (updo f d0 (.bool false))) w') :
    wpList P ops Q ({ dst := d0, op := op0, type := ty0, pos := ps0, after := af0, guard := g0 } :: rest) (F n f) w := by
  cases b with
  | true => exact p_val hr hg (h1 rfl)
  | false => exact p_val hr hg (h2 rfl)
theorem pg_valB (hg : g0 = some (j, want)) (hj : ops[j]? = some oj) (hd : oj.dst = some d) (hv : ev n f (.tmp d) = .bool b') (hb : (b' == want) = true) (hr : (execOp (ev n f) { dst := d0, op := op0, type := ty0, pos := ps0, after := af0, guard := g0 }).run P w = .ok (.value (.bool (decide p))) w') (h1 : p → wpList P ops Q rest (F n (updo f d0 (.bool true))) w') (h2 : ¬ p → wpList P ops Q rest (F n (updo f d0 (.bool false))) w') :
    wpList P ops Q ({ dst := d0, op := op0, type := ty0, pos := ps0, after := af0, guard := g0 } :: rest) (F n f) w := by
  by_cases h : p
  · exact pg_val hg hj hd hv hb (by rw [hr, decide_eq_true h]) (h1 h)
  · exact pg_val hg hj hd hv hb (by rw [hr, decide_eq_false h]) (h2 h)
theorem pg_valb (hg : g0 = some (j, want)) (hj : ops[j]? = some oj) (hd : oj.dst = some d) (hv : ev n f (.tmp d) = .bool b') (hb : (b' == want) = true) (hr : (execOp (ev n f) { dst := d0, op := op0, type := ty0, pos := ps0, after := af0, guard := g0 }).run P w = .ok (.value (.bool b)) w') (h1 : b = true → wpList P ops Q rest (F n (updo f d0 (.bool true))) w') (h2 : b = false → wpList P ops Q rest (F n (updo f d0 (.bool false))) w') :
    wpList P ops Q ({ dst := d0, op := op0, type := ty0, pos := ps0, after := af0, guard := g0 } :: rest) (F n f) w := by
  cases b with
  | true => exact pg_val hg hj hd hv hb hr (h1 rfl)
  | false => exact pg_val hg hj hd hv hb hr (h2 rfl)
theorem q_valB (hr : ∀ w, S w → (execOp (ev n f) { dst := d0, op := op0, type := ty0, pos := ps0, after := af0, guard := g0 }).run P w = .ok (.value (.bool (decide p))) w) (hg : g0 = none) (hS : S w) (h1 : p → seqH P ops Q S N rest' (F n (updo f d0 (.bool true))) w) (h2 : ¬ p → seqH P ops Q S N rest' (F n (updo f d0 (.bool false))) w) :
    seqH P ops Q S N ((true, { dst := d0, op := op0, type := ty0, pos := ps0, after := af0, guard := g0 }) :: rest') (F n f) w := by
  by_cases h : p
  · exact q_val (fun w hw => by rw [hr w hw, decide_eq_true h]) hg hS (h1 h)
  · exact q_val (fun w hw => by rw [hr w hw, decide_eq_false h]) hg hS (h2 h)
theorem q_valb (hr : ∀ w, S w → (execOp (ev n f) { dst := d0, op := op0, type := ty0, pos := ps0, after := af0, guard := g0 }).run P w = .ok (.value (.bool b)) w) (hg : g0 = none) (hS : S w) (h1 : b = true → seqH P ops Q S N rest' (F n (updo f d0 (.bool true))) w) (h2 : b = false → seqH P ops Q S N rest' (F n (updo f d0 (.bool false))) w) :
    seqH P ops Q S N ((true, { dst := d0, op := op0, type := ty0, pos := ps0, after := af0, guard := g0 }) :: rest') (F n f) w := by
  cases b with
  | true => exact q_val hr hg hS (h1 rfl)
  | false => exact q_val hr hg hS (h2 rfl)
theorem qg_valB (hg : g0 = some (j, want)) (hj : ops[j]? = some oj) (hd : oj.dst = some d) (hv : ev n f (.tmp d) = .bool b') (hb : (b' == want) = true) (hr : ∀ w, S w → (execOp (ev n f) { dst := d0, op := op0, type := ty0, pos := ps0, after := af0, guard := g0 }).run P w = .ok (.value (.bool (decide p))) w) (hS : S w) (h1 : p → seqH P ops Q S N rest' (F n (updo f d0 (.bool true))) w) (h2 : ¬ p → seqH P ops Q S N rest' (F n (updo f d0 (.bool false))) w) :
    seqH P ops Q S N ((true, { dst := d0, op := op0, type := ty0, pos := ps0, after := af0, guard := g0 }) :: rest') (F n f) w := by
  by_cases h : p
  · exact qg_val hg hj hd hv hb (fun w hw => by rw [hr w hw, decide_eq_true h]) hS (h1 h)
  · exact qg_val hg hj hd hv hb (fun w hw => by rw [hr w hw, decide_eq_false h]) hS (h2 h)
theorem qg_valb (hg : g0 = some (j, want)) (hj : ops[j]? = some oj) (hd : oj.dst = some d) (hv : ev n f (.tmp d) = .bool b') (hb : (b' == want) = true) (hr : ∀ w, S w → (execOp (ev n f) { dst := d0, op := op0, type := ty0, pos := ps0, after := af0, guard := g0 }).run P w = .ok (.value (.bool b)) w) (hS : S w) (h1 : b = true → seqH P ops Q S N rest' (F n (updo f d0 (.bool true))) w) (h2 : b = false → seqH P ops Q S N rest' (F n (updo f d0 (.bool false))) w) :
    seqH P ops Q S N ((true, { dst := d0, op := op0, type := ty0, pos := ps0, after := af0, guard := g0 }) :: rest') (F n f) w := by
  cases b with
  | true => exact qg_val hg hj hd hv hb hr hS (h1 rfl)
  | false => exact qg_val hg hj hd hv hb hr hS (h2 rfl)
end
end Go.Proofs.Ytcgcjklpilbndaa.E

/- Regions that draw their order where several operations with an effect may come up at once: a tree of orders. It proves no statement by itself. -/
set_option linter.unusedSimpArgs false
set_option linter.unusedVariables false
namespace Go.Proofs.Ytcgcjklpilbndaa.E
open Go Go.RowKit
inductive OT where
  | stop
  | sq (l : List (Bool × Nat)) (t : OT)
  | fork (i : Nat) (t : OT) (more : OT)
  | none_
  | re (t : OT)
def OT.heads : OT → List Nat
  | .fork i _ more => i :: more.heads
  | _ => []
def marks (listed : Array Bool) (l : List (Bool × Nat)) : Array Bool := l.foldl (fun x q => x.setIfInBounds q.2 true) listed
def orderS (ops : Array Oper) (Z : List Nat) : List (Bool × Nat) → Array Bool → Bool
  | [], _ => true
  | (true, i) :: rest, listed => Region.free .any ops listed i && (Region.ready .any ops listed).contains i && waitsB ops Z i && needS Z listed && !Z.contains i && orderS ops Z rest (listed.setIfInBounds i true)
  | (false, i) :: rest, listed => (Region.ready .any ops listed == [i]) && orderS ops Z rest (listed.setIfInBounds i true)
/-- 'inF': inside a fork, whose heads were looked at before -/
def checkT (ops : Array Oper) (Z tl : List Nat) : OT → Bool → Nat → Array Bool → Bool
  | .stop, _, fuel, listed => (fuel == tl.length) && tailB ops Z tl listed
  | .sq l t, _, fuel, listed => Nat.ble l.length fuel && orderS ops Z l listed && checkT ops Z tl t false (fuel - l.length) (marks listed l)
  | .fork i t more, inF, fuel, listed =>
    (inF || (Region.ready .any ops listed != [] && (Region.ready .any ops listed).all fun j => (OT.fork i t more).heads.contains j)) && Nat.ble 1 fuel && checkT ops Z tl t false (fuel - 1) (listed.setIfInBounds i true) && checkT ops Z tl more true fuel listed
  | .none_, inF, _, _ => inF
  | .re t, inF, fuel, listed => !inF && checkT ops Z tl t false fuel listed
def treeH (P : Program) (ops : Array Oper) (Q : Exit → Act → World → Prop) : (World → Prop) → (Act → World → Prop) → OT → Act → World → Prop
  | _, N, .stop, a, w => N a w
  | S, N, .sq l t, a, w => seqH P ops Q S (fun a w => treeH P ops Q S N t a w) (pick ops l) a w
  | S, N, .fork i t more, a, w => seqH P ops Q S (fun a w => treeH P ops Q S N t a w) (pick ops [(false, i)]) a w ∧ treeH P ops Q S N more a w
  | _, _, .none_, _, _ => True
  | S, N, .re t, a, w => ∃ S' : World → Prop, (∀ w, S' w → S w) ∧ treeH P ops Q S' N t a w
section
variable {P : Program} {ops : Array Oper} {Q : Exit → Act → World → Prop} {S : World → Prop} {N : Act → World → Prop}
theorem wpAnyZ_mono {Z : List Nat} {S S' : World → Prop} (h : ∀ w, S' w → S w) : ∀ (fuel : Nat) (listed : Array Bool) (a : Act) (w : World), wpAnyZ P ops Q S' Z fuel listed a w → wpAnyZ P ops Q S Z fuel listed a w
  | 0, _, _, _, H => H
  | fuel + 1, listed, a, w, H => ⟨H.1, fun i hi => wpOp_mono (fun a' w' h' => ⟨fun hn => h _ (h'.1 hn), wpAnyZ_mono h fuel _ a' w' h'.2⟩) (H.2 i hi)⟩
theorem seqN_sound {Z : List Nat} (hs : Region.noSelect ops = true) (hQ : Calm Q) {fuel : Nat} :
    ∀ (l : List (Bool × Nat)) (listed : Array Bool) (a : Act) (w : World), orderS ops Z l listed = true → (∀ a w, N a w → wpAnyZ P ops Q S Z fuel (marks listed l) a w) →
      seqH P ops Q S N (pick ops l) a w → wpAnyZ P ops Q S Z (l.length + fuel) listed a w := by
  intro l
  induction l with
  | nil =>
    intro listed a w hB hN h
    have := hN a w h
    simpa [marks] using this
  | cons x l ih =>
    obtain ⟨b, i⟩ := x
    intro listed a w hB hN h
    have hN' : ∀ a w, N a w → wpAnyZ P ops Q S Z fuel (marks (listed.setIfInBounds i true) l) a w := hN
    rw [show ((b, i) :: l).length + fuel = (l.length + fuel) + 1 by simp; omega]
    cases b with
    | true =>
      simp only [orderS, Bool.and_eq_true, Bool.not_eq_true'] at hB
      obtain ⟨⟨⟨⟨⟨hf, hr⟩, hwt⟩, hn⟩, hiZ⟩, hB'⟩ := hB
      have hi : ∃ o, ops[i]? = some o := by
        have := mem_ready.1 (by simpa using hr : i ∈ Region.ready .any ops listed)
        obtain ⟨_, o, ho, _⟩ := this
        exact ⟨o, ho⟩
      obtain ⟨o, ho⟩ := hi
      have hp : pick ops ((true, i) :: l) = (true, o) :: pick ops l := by simp [pick, ho]
      rw [hp] at h
      obtain ⟨v, hy, hS, hk⟩ := h
      exact wpAnyZ_first ho (Region.noSelect_spec hs) (fun c a' w' hq => hQ _ _ _ _ _ hq) hwt hiZ _ listed a w (Region.free_spec ho hf) (by simpa using hr) hn hy hS (ih _ _ _ hB' hN' hk)
    | false =>
      simp only [orderS, Bool.and_eq_true, beq_iff_eq] at hB
      obtain ⟨hr, hB'⟩ := hB
      have hi : ∃ o, ops[i]? = some o := by
        have := mem_ready.1 (by rw [hr]; simp : i ∈ Region.ready .any ops listed)
        obtain ⟨_, o, ho, _⟩ := this
        exact ⟨o, ho⟩
      obtain ⟨o, ho⟩ := hi
      have hp : pick ops ((false, i) :: l) = (false, o) :: pick ops l := by simp [pick, ho]
      rw [hp] at h
      refine ⟨fun h0 => (by rw [h0] at hr; cases hr), fun j hj => ?_⟩
      rw [hr] at hj
      obtain rfl : j = i := by simpa using hj
      unfold wpOp
      simp only [ho]
      unfold seqH at h
      split at h
      · rename_i hw
        rw [if_pos hw]
        exact .inl (Oper.wp_mono (fun a' w' ⟨h1, h2⟩ => ⟨fun _ => h1, ih _ _ _ hB' hN' h2⟩) h)
      · rename_i hw
        rw [if_neg hw]
        exact ⟨fun _ => h.1, ih _ _ _ hB' hN' h.2⟩
theorem one_sound {Z : List Nat} {i fuel : Nat} {listed : Array Bool} {a : Act} {w : World} (hr : i ∈ Region.ready .any ops listed) (hN : ∀ a w, N a w → wpAnyZ P ops Q S Z fuel (listed.setIfInBounds i true) a w)
    (h : seqH P ops Q S N (pick ops [(false, i)]) a w) : wpOp P ops Q i (fun a' w' => (needS Z (listed.setIfInBounds i true) = true → S w') ∧ wpAnyZ P ops Q S Z fuel (listed.setIfInBounds i true) a' w') a w := by
  obtain ⟨_, o, ho, _⟩ := mem_ready.1 hr
  have hp : pick ops [(false, i)] = [(false, o)] := by simp [pick, ho]
  rw [hp] at h
  unfold wpOp
  simp only [ho]
  unfold seqH at h
  split at h
  · rename_i hw
    rw [if_pos hw]
    exact .inl (Oper.wp_mono (fun a' w' ⟨h1, h2⟩ => ⟨fun _ => h1, hN _ _ h2⟩) h)
  · rename_i hw
    rw [if_neg hw]
    exact ⟨fun _ => h.1, hN _ _ h.2⟩
theorem tree_sound {Z tl : List Nat} (hs : Region.noSelect ops = true) (hQ : Calm Q) :
    ∀ (t : OT) (S : World → Prop),
      (∀ (fuel : Nat) (listed : Array Bool) (a : Act) (w : World), checkT ops Z tl t false fuel listed = true → treeH P ops Q S (wpList P ops Q (pickL ops tl)) t a w → wpAnyZ P ops Q S Z fuel listed a w) ∧
      (∀ (fuel : Nat) (listed : Array Bool) (a : Act) (w : World) (j : Nat), checkT ops Z tl t true (fuel + 1) listed = true → treeH P ops Q S (wpList P ops Q (pickL ops tl)) t a w → j ∈ t.heads → j ∈ Region.ready .any ops listed →
        wpOp P ops Q j (fun a' w' => (needS Z (listed.setIfInBounds j true) = true → S w') ∧ wpAnyZ P ops Q S Z fuel (listed.setIfInBounds j true) a' w') a w) := by
  intro t
  induction t with
  | re t ih =>
    intro S
    refine ⟨fun fuel listed a w hc h => ?_, fun fuel listed a w j hc h hj => by simp [OT.heads] at hj⟩
    simp only [checkT, Bool.not_false, Bool.true_and] at hc
    obtain ⟨S', hS, h⟩ := h
    exact wpAnyZ_mono hS _ _ _ _ ((ih S').1 fuel listed a w hc h)
  | stop =>
    intro S
    refine ⟨fun fuel listed a w hc h => ?_, fun fuel listed a w j hc h hj => by simp [OT.heads] at hj⟩
    simp only [checkT, Bool.and_eq_true, beq_iff_eq] at hc
    obtain ⟨rfl, hc⟩ := hc
    exact tail_sound tl listed a w hc h
  | sq l t ih =>
    intro S
    refine ⟨fun fuel listed a w hc h => ?_, fun fuel listed a w j hc h hj => by simp [OT.heads] at hj⟩
    simp only [checkT, Bool.and_eq_true, Nat.ble_eq] at hc
    obtain ⟨⟨hl, ho⟩, hc⟩ := hc
    have := seqN_sound (S := S) hs hQ (fuel := fuel - l.length) l listed a w ho (fun a w hN => (ih S).1 _ _ _ _ hc hN) h
    rwa [show l.length + (fuel - l.length) = fuel by omega] at this
  | none_ =>
    intro S
    refine ⟨fun fuel listed a w hc h => ?_, fun fuel listed a w j hc h hj => by simp [OT.heads] at hj⟩
    simp [checkT] at hc
  | fork i t more ih ihm =>
    intro S
    have part : ∀ (fuel : Nat) (listed : Array Bool) (a : Act) (w : World) (j : Nat), checkT ops Z tl (.fork i t more) true (fuel + 1) listed = true → treeH P ops Q S (wpList P ops Q (pickL ops tl)) (.fork i t more) a w → j ∈ (OT.fork i t more).heads → j ∈ Region.ready .any ops listed →
        wpOp P ops Q j (fun a' w' => (needS Z (listed.setIfInBounds j true) = true → S w') ∧ wpAnyZ P ops Q S Z fuel (listed.setIfInBounds j true) a' w') a w := by
      intro fuel listed a w j hc h hj hr
      simp only [checkT, Bool.and_eq_true, Bool.true_or, true_and, Nat.add_sub_cancel] at hc
      obtain ⟨⟨_, hc1⟩, hc2⟩ := hc
      obtain ⟨h1, h2⟩ := h
      by_cases hji : j = i
      · subst hji
        exact one_sound hr (fun a w hN => (ih S).1 _ _ _ _ hc1 hN) h1
      · have : j ∈ more.heads := by
          simp only [OT.heads, List.mem_cons] at hj
          exact hj.resolve_left hji
        exact (ihm S).2 fuel listed a w j hc2 h2 this hr
    refine ⟨fun fuel listed a w hc h => ?_, part⟩
    have hc0 := hc
    simp only [checkT, Bool.and_eq_true, Bool.false_or, bne_iff_ne, ne_eq, Nat.ble_eq] at hc
    obtain ⟨⟨⟨⟨hne, hall⟩, hf⟩, hc1⟩, hc2⟩ := hc
    obtain ⟨fuel, rfl⟩ : ∃ k, fuel = k + 1 := ⟨fuel - 1, by omega⟩
    refine ⟨fun h0 => absurd h0 hne, fun j hj => ?_⟩
    have hjh := List.all_eq_true.1 hall j hj
    exact part fuel listed a w j (by simp only [checkT, Bool.and_eq_true, Bool.true_or, true_and]; exact ⟨⟨by simp, hc1⟩, hc2⟩) h (by simpa using hjh) hj
variable {n : Nat} {f : Nat → Value} {w : World} {id : Nat} {l : List Oper}
theorem s_drawT (t : OT) (Z tl : List Nat) (S : World → Prop) (hm : P.follows .mixedOrders = true)
    (hB : (Region.noSelect l.toArray && checkT l.toArray Z tl t false l.length (Array.replicate l.length false)) = true) (hQ : Calm Q)
    (h : treeH P l.toArray Q S (wpList P l.toArray Q (pickL l.toArray tl)) t (F n f) w.drew) : (Code.region id l.toArray true).wp P Q (F n f) w := by
  simp only [Bool.and_eq_true] at hB
  refine wp_region_any hm (wpAny_of_Z (S := S) (Z := Z) _ _ _ _ ?_)
  have := (tree_sound hB.1 hQ t S).1 _ _ (F n f) w.drew hB.2 h
  simpa using this
/-- the steps of a tree's walk -/
theorem t_sq {l : List (Bool × Nat)} {t : OT} {a : Act} {w : World} (h : seqH P ops Q S (fun a w => treeH P ops Q S N t a w) (pick ops l) a w) : treeH P ops Q S N (.sq l t) a w := h
theorem t_fork {i : Nat} {t more : OT} {a : Act} {w : World} (h : seqH P ops Q S (fun a w => treeH P ops Q S N t a w) (pick ops [(false, i)]) a w) (hm : treeH P ops Q S N more a w) : treeH P ops Q S N (.fork i t more) a w := ⟨h, hm⟩
theorem t_none {a : Act} {w : World} : treeH P ops Q S N .none_ a w := trivial
theorem t_re {S' : World → Prop} {t : OT} {a : Act} {w : World} (h : ∀ w, S' w → S w) (hk : treeH P ops Q S' N t a w) : treeH P ops Q S N (.re t) a w := ⟨S', h, hk⟩
theorem t_stop {a : Act} {w : World} (h : N a w) : treeH P ops Q S N .stop a w := h
end
end Go.Proofs.Ytcgcjklpilbndaa.E

/- More laws on single operations for walks: bytes of any number, the last bit, rows that are made. It proves no statement by itself. -/
set_option linter.unusedSimpArgs false
set_option linter.unusedVariables false
namespace Go.Proofs.Ytcgcjklpilbndaa.E
open Go Go.RowKit
section
variable {P : Program} {ρ : Operand → Value} {d : Option Tmp} {x y : Operand} {t ty yt : TypeId} {ps : String} {af : Array Edge} {g : Option (Nat × Bool)} {w w0 : World} {k : IntKind} {a b : Int} {m n : Nat} {ex : List Nat} {ks : List (Option Nat)} {pp : List (Option Obj → Prop)}
theorem wrap8_int (a : Int) : IntKind.u8.wrap a = (((a % 256).toNat : Nat) : Int) := by
  unfold IntKind.wrap
  simp [IntKind.signed, IntKind.bits]
  omega
theorem e_conv8i {u : TypeDesc} {s : TypeId} (hx : ρ x = .int k a) (hs : P.underlying s = some u) (hu : u ≠ .unsafePointer) (ht : P.underlying t = some (.int .u8)) : (execOp ρ { dst := d, op := .convert s t x, type := ty, pos := ps, after := af, guard := g }).run P w = .ok (.value (.int .u8 (((a % 256).toNat : Nat) : Int))) w :=
  e_conv_in hx hs hu ht (wrap8_int a)
theorem bits_and1 (a : Int) : bits .and .i64 a 1 = a % 2 := by
  have h : (BitVec.ofInt 64 a &&& BitVec.ofInt 64 1) = BitVec.ofNat 64 ((a % 2).toNat) := by
    apply BitVec.eq_of_toNat_eq
    rw [BitVec.toNat_and, BitVec.toNat_ofInt, BitVec.toNat_ofInt, BitVec.toNat_ofNat]
    have e1 : ((1 : Int) % ((2 ^ 64 : Nat) : Int)).toNat = 1 := by decide
    rw [e1, Nat.and_one_is_mod]
    have h1 : (a % 2).toNat < 2 := by omega
    rw [Nat.mod_eq_of_lt (by omega : (a % 2).toNat < 2 ^ 64)]
    have h3 : ((2 ^ 64 : Nat) : Int) = 18446744073709551616 := by decide
    rw [h3]
    omega
  show IntKind.i64.wrap ((BitVec.ofInt 64 a &&& BitVec.ofInt 64 1).toNat : Int) = _
  rw [h, BitVec.toNat_ofNat, Nat.mod_eq_of_lt (by omega), IntWalk.i64_in _ (by omega)]
  omega
theorem e_and1 (hx : ρ x = .int .i64 a) (hy : ρ y = .int .i64 1) : (execOp ρ { dst := d, op := .binOp .and t x y yt, type := ty, pos := ps, after := af, guard := g }).run P w = .ok (.value (.int .i64 (a % 2))) w :=
  e_int .and hx hy fun w => by
    show (Op.intBits .and .i64 a 1).run P w = _
    unfold Op.intBits
    exact congrArg (fun z => Result.ok (Value.int .i64 z) w) (bits_and1 a)
/-- a row that is made, empty, with room -/
theorem d_make0 {e : TypeId} {size bytes : Nat} (S : St w0 w ex ks pp) (ht : P.underlying t = some (.slice e)) (he : El P e size bytes) (n : Nat) {kl kc : IntKind} (hx : ρ x = .int kl 0) (hy : ρ y = .int kc (n : Int)) (hb : bytes * n ≤ 281474976710656) (h63 : n ≤ maxLen) :
    Does P ρ { dst := d, op := .makeSlice t x y, type := ty, pos := ps, after := af, guard := g } w fun v w' => ∃ b, v = .slice (at_ (some b)) 0 n ∧ St w0 w' ex (some b :: ks) (Rw e size 0 n [] :: pp) := by
  obtain ⟨⟨i, z, hi, hz, hsz, hby, hzs⟩, hpos⟩ := he
  have h9 : (n : Int) ≤ 9223372036854775807 := by unfold maxLen at h63; omega
  have hr := run_make (P := P) w t e i z ht hi hz kl kc 0 (n : Int) (Int.le_refl _) (by omega) (by rw [hby, ← Int.natCast_mul]; omega) h9
  refine .inl ⟨_, _, ?_, w.heap.size, rfl, S.alloc (.cells (madeCells z.cells (n * size)) e) _ ⟨by simp, .inr ⟨_, rfl, Nat.zero_le _, h63, by rw [size_madeCells], by simp⟩⟩⟩
  show ((do pure (.value (← Instr.makeSlice t (ρ x) (ρ y)))) : Sem Next).run P w = _
  rw [hx, hy]
  simp only [Sem.run_bind, hr, Result.andThen_ok, Sem.run_pure, Int.toNat_natCast, hsz]
  rfl
/-- a row of n zero values of one cell -/
theorem d_make1 {e : TypeId} {bytes : Nat} {z : Value} (S : St w0 w ex ks pp) (ht : P.underlying t = some (.slice e)) (he : El P e 1 bytes) (hz0 : Zv P e z) (h1 : z.cells = #[z]) (n : Nat) {kl kc : IntKind} (hx : ρ x = .int kl (n : Int)) (hy : ρ y = .int kc (n : Int)) (hb : bytes * n ≤ 281474976710656) (h63 : n ≤ maxLen) :
    Does P ρ { dst := d, op := .makeSlice t x y, type := ty, pos := ps, after := af, guard := g } w fun v w' => ∃ b, v = .slice (at_ (some b)) n n ∧ St w0 w' ex (some b :: ks) (Rw e 1 n n (List.replicate n z) :: pp) := by
  obtain ⟨⟨i, z', hi, hz, hsz, hby, hzs⟩, hpos⟩ := he
  have ez : z' = z := by
    have h := hz0 w
    simp [zeroValue, typeInfo, hi, hz] at h
    exact h
  subst ez
  have h9 : (n : Int) ≤ 9223372036854775807 := by unfold maxLen at h63; omega
  have hr := run_make (P := P) w t e i z' ht hi hz kl kc (n : Int) (n : Int) (by omega) (Int.le_refl _) (by rw [hby, ← Int.natCast_mul]; omega) h9
  refine .inl ⟨_, _, ?_, w.heap.size, rfl, S.alloc (.cells (madeCells z'.cells (n * 1)) e) _ ⟨by simp, .inr ⟨_, rfl, Nat.le_refl _, h63, by rw [size_madeCells], by rw [h1, toList_madeCells_one, Nat.mul_one]; simp⟩⟩⟩
  show ((do pure (.value (← Instr.makeSlice t (ρ x) (ρ y)))) : Sem Next).run P w = _
  rw [hx, hy]
  simp only [Sem.run_bind, hr, Result.andThen_ok, Sem.run_pure, Int.toNat_natCast, hsz]
  rfl
end
end Go.Proofs.Ytcgcjklpilbndaa.E
