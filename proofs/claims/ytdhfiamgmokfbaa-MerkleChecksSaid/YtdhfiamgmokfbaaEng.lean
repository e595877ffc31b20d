/- An engine of small laws by which walks over this seat's program are typed: frames as functions, regions in a given order, loops with ghosts. It proves no statement by itself. -/
import Derived.OrdersHeld
import Derived.Tactics
import Derived.KernelRfl
import Derived.Below
set_option linter.unusedSimpArgs false
set_option linter.unusedVariables false
namespace Go.Proofs.Ytdhfiamgmokfbaa.E
open Go Go.RowKit

/-! ### Frames as functions -/
def upd (f : Nat → Value) (d : Nat) (v : Value) : Nat → Value := fun t => bif Nat.beq t d then v else f t
def F (n : Nat) (f : Nat → Value) : Act := { tmps := ((List.range n).map f).toArray, defers := [] }
def ev (n : Nat) (f : Nat → Value) : Operand → Value
  | .tmp t => bif Nat.blt t n then f t else undef
  | .const v => v
  | .global g => .pointer (some ⟨g, 0, none⟩)
  | .func k => .func (.func k) #[] #[]
def updo (f : Nat → Value) : Option Tmp → Value → Nat → Value
  | some d, v => upd f d v
  | none, _ => f
def ini (l : List Value) : Nat → Value := fun t => l.getD t undef

theorem upd_eq (f : Nat → Value) (d : Nat) (v : Value) (h : f d = v) : upd f d v = f := by
  funext t
  unfold upd
  cases hb : Nat.beq t d with
  | true => rw [Nat.eq_of_beq_eq_true hb, ← h]; rfl
  | false => rfl
theorem F_getElem? (n : Nat) (f : Nat → Value) (t : Nat) : (F n f).tmps[t]? = if t < n then some (f t) else none := by
  unfold F
  by_cases h : t < n
  · simp [h]
  · simp [h]
theorem F_getD (n : Nat) (f : Nat → Value) (t : Nat) : (F n f).tmps.getD t undef = bif Nat.blt t n then f t else undef := by
  rw [Array.getD_eq_getD_getElem?, F_getElem?]
  by_cases h : t < n
  · have : Nat.blt t n = true := by simpa [Nat.blt_eq] using h
    simp [h, this]
  · have : Nat.blt t n = false := by
      cases hb : Nat.blt t n with
      | false => rfl
      | true => exact absurd (by simpa [Nat.blt_eq] using hb) h
    simp [h, this]
theorem eval_F (n : Nat) (f : Nat → Value) : (F n f).eval = ev n f := by
  funext x
  cases x with
  | tmp t => exact F_getD n f t
  | const v => rfl
  | global g => rfl
  | func k => rfl
theorem put_F (n : Nat) (f : Nat → Value) (d : Option Tmp) (v : Value) : (F n f).put d v = F n (updo f d v) := by
  cases d with
  | none => rfl
  | some d =>
    unfold Act.put updo F
    simp only [Act.mk.injEq, and_true]
    apply Array.ext_getElem?
    intro t
    rw [Array.getElem?_setIfInBounds]
    simp only [List.getElem?_toArray, List.getElem?_map, List.getElem?_range', List.size_toArray, List.length_map, List.length_range]
    by_cases hd : d = t
    · subst hd
      by_cases h : d < n
      · simp [h, upd]
      · simp [h]
    · have hb : Nat.beq t d = false := by
        cases hb : Nat.beq t d with
        | false => rfl
        | true => exact absurd (Nat.eq_of_beq_eq_true hb).symm hd
      by_cases h : t < n
      · simp [h, hd, upd, hb]
      · simp [h, hd]

/-! ### Contracts -/
def Ret (P : Program) (k : FuncId) (args : List Value) (w : World) (R : Value → World → Prop) : Prop :=
  Calls P k args.toArray w fun e w' => ∃ v, e = .returned v ∧ R v w'
theorem Ret.mono {P : Program} {k : FuncId} {args : List Value} {w : World} {R R' : Value → World → Prop} (h : Ret P k args w R) (hr : ∀ v w', R v w' → R' v w') : Ret P k args w R' :=
  Calls.mono h fun _ _ ⟨v, he, hv⟩ => ⟨v, he, hr v _ hv⟩
def Post (P : Program) (fn : Func) (R : Value → World → Prop) : Exit → Act → World → Prop := bodyPost P fn fun e w' => ∃ v, e = .returned v ∧ R v w'

theorem enter {P : Program} {k : FuncId} {fn : Func} {c : Code} {l : List Value} {w : World} {R : Value → World → Prop} {n : Nat}
    (hf : P.funcs[k]? = some fn) (hb : fn.body = some c) (hn : fn.ntmps = n) (hl : l.length ≤ n) (h : c.wp P (Post P fn R) (F n (ini l)) w) : Ret P k l w R := by
  refine calls_of_wp hf hb ?_
  have e : ({ tmps := l.toArray ++ Array.replicate (fn.ntmps - l.toArray.size) undef, defers := [] } : Act) = F n (ini l) := by
    unfold F ini
    simp only [Act.mk.injEq, and_true]
    apply Array.ext_getElem?
    intro t
    rw [Array.getElem?_append]
    simp only [List.size_toArray, List.getElem?_toArray, Array.getElem?_replicate, List.getElem?_map, List.getElem?_range', hn]
    by_cases h1 : t < l.length
    · have : t < n := by omega
      simp [h1, this, List.getD_eq_getElem?_getD]
    · by_cases h2 : t < n
      · have : t - l.length < n - l.length := by omega
        simp [h1, h2, this, List.getD_eq_getElem?_getD, List.getElem?_eq_none (Nat.le_of_not_lt h1)]
      · have : ¬ t - l.length < n - l.length := by omega
        simp [h1, h2, this]
  rw [e]
  exact h

section
variable {P : Program} {fn : Func} {R : Value → World → Prop} {n : Nat} {f : Nat → Value} {w : World}
/-- the results are read: one temporary, two, three, none -/
theorem post1 {t : Tmp} {v : Value} (h : fn.results = #[.tmp t]) (hv : ev n f (.tmp t) = v) (hR : R v w) : Post P fn R .ret (F n f) w :=
  bodyPost_ret (v := v) (by rw [results_tmp h, F_getD]; exact congrArg (Result.ok · w) hv) rfl ⟨v, rfl, hR⟩
theorem post2 {t u : Tmp} {v x : Value} (h : fn.results = #[.tmp t, .tmp u]) (hv : ev n f (.tmp t) = v) (hx : ev n f (.tmp u) = x) (hR : R (.tuple #[v, x]) w) : Post P fn R .ret (F n f) w :=
  bodyPost_ret (v := .tuple #[v, x]) (by rw [results_tmp2 h, F_getD, F_getD, ← hv, ← hx]; rfl) rfl ⟨_, rfl, hR⟩
theorem post0 (h : fn.results = #[]) (hR : R (.tuple #[]) w) : Post P fn R .ret (F n f) w :=
  bodyPost_ret (v := .tuple #[]) (results_none h _ _ _) rfl ⟨_, rfl, hR⟩
/-- any results, by an equation on their reading -/
theorem postAny {v : Value} (hr : (results fn (F n f).tmps).run P w = .ok v w) (hR : R v w) : Post P fn R .ret (F n f) w := bodyPost_ret hr rfl ⟨v, rfl, hR⟩
theorem post_end (h : Post P fn R .ret (F n f) w) : Post P fn R .normal (F n f) w := h
end

/-! ### Code -/
section
variable {P : Program} {Q : Exit → Act → World → Prop} {K : Act → World → Prop} {a : Act} {w : World} {c x y : Code} {id : Nat}
theorem s_seq (h : x.wp P (Exit.then (y.wp P Q) Q) a w) : (Code.seq x y).wp P Q a w := wp_seq h
theorem s_ret (h : Q .ret a w) : Code.ret.wp P Q a w := wp_ret h
theorem s_skip (h : Q .normal a w) : Code.skip.wp P Q a w := wp_skip h
theorem s_exit (h : Q (.exit id) a w) : (Code.exit id).wp P Q a w := wp_exit h
theorem s_block (h : c.wp P (Exit.inBlock id Q) a w) : (Code.block id c).wp P Q a w := wp_block h
theorem x_then (h : K a w) : Exit.then K Q .normal a w := h
theorem x_then_ret (h : Q .ret a w) : Exit.then K Q .ret a w := h
theorem x_then_exit (h : Q (.exit id) a w) : Exit.then K Q (.exit id) a w := h
theorem x_in (h : Q .normal a w) : Exit.inBlock id Q .normal a w := h
theorem x_in_ret (h : Q .ret a w) : Exit.inBlock id Q .ret a w := h
theorem x_in_same (h : Q .normal a w) : Exit.inBlock id Q (.exit id) a w := by simpa [Exit.inBlock] using h
theorem x_in_other {id' : Nat} (hne : Nat.beq id' id = false) (h : Q (.exit id') a w) : Exit.inBlock id Q (.exit id') a w := by
  have : id' ≠ id := fun e => by subst e; simp at hne
  simpa [Exit.inBlock, this] using h
variable {n : Nat} {f : Nat → Value}
theorem s_cond {o : Operand} {p : Prop} [Decidable p] (hc : ev n f o = .bool (decide p)) (ht : p → x.wp P Q (F n f) w) (hf : ¬ p → y.wp P Q (F n f) w) : (Code.cond o x y).wp P Q (F n f) w :=
  wp_cond_split (t := decide p) (by rw [eval_F]; exact hc) (fun h => ht (of_decide_eq_true h)) (fun h => hf (of_decide_eq_false h))
theorem s_condb {o : Operand} {b : Bool} (hc : ev n f o = .bool b) (ht : b = true → x.wp P Q (F n f) w) (hf : b = false → y.wp P Q (F n f) w) : (Code.cond o x y).wp P Q (F n f) w :=
  wp_cond_split (t := b) (by rw [eval_F]; exact hc) ht hf
theorem s_cond_t {o : Operand} (hc : ev n f o = .bool true) (h : x.wp P Q (F n f) w) : (Code.cond o x y).wp P Q (F n f) w := wp_cond_true (by rw [eval_F]; exact hc) h
theorem s_cond_f {o : Operand} (hc : ev n f o = .bool false) (h : y.wp P Q (F n f) w) : (Code.cond o x y).wp P Q (F n f) w := wp_cond_false (by rw [eval_F]; exact hc) h

/-- A loop, its invariant over a ghost, its measure on the ghost. -/
theorem s_loop {α : Type} (J : α → (Nat → Value) → World → Prop) (μ : α → Nat) (g0 : α) (h0 : J g0 f w)
    (round : ∀ (g : α) (f : Nat → Value) (w : World), J g f w → c.wp P (Exit.then (fun a' w' => ∃ (g' : α) (f' : Nat → Value), a' = F n f' ∧ J g' f' w' ∧ μ g' < μ g) Q) (F n f) w) :
    (Code.loop c).wp P Q (F n f) w := by
  intro b k cs
  have key : ∀ m (g : α) f w, μ g = m → J g f w →
      ∃ e a' w', Q e a' w' ∧ Arrives P (lone (b.at (F n f) (.code c :: .inLoop c :: k)) cs w) b k cs e a' w' := by
    intro m
    induction m using Nat.strongRecOn with
    | _ m ih =>
      intro g f w hm hI
      obtain ⟨e, a₁, w₁, hq, harr⟩ := round g f w hI b (.inLoop c :: k) cs
      cases e with
      | normal =>
        obtain ⟨g', f', rfl, hI₁, hlt⟩ := hq
        obtain ⟨e₂, a₂, w₂, hq₂, harr₂⟩ := ih (μ g') (hm ▸ hlt) g' f' w₁ rfl hI₁
        exact ⟨e₂, a₂, w₂, hq₂, .of_steps (Steps.trans harr (.one step_inLoop)) harr₂⟩
      | exit id => exact ⟨_, a₁, w₁, hq, .pass (x := .inLoop c) rfl (fun _ _ => .inl (by simp)) harr⟩
      | goto l => exact ⟨_, a₁, w₁, hq, .pass (x := .inLoop c) rfl (fun _ _ => .inl (by simp)) harr⟩
      | ret => exact ⟨_, a₁, w₁, hq, .pass (x := .inLoop c) rfl (fun _ _ => .inl (by simp)) harr⟩
      | panic ch => exact ⟨_, a₁, w₁, hq, .pass (x := .inLoop c) rfl (fun _ _ => .inl (by simp)) harr⟩
      | outgrown => exact ⟨_, a₁, w₁, hq, .pass (x := .inLoop c) rfl (fun _ _ => .inl (by simp)) harr⟩
  obtain ⟨e, a', w', hq, harr⟩ := key _ g0 f w rfl h0
  exact ⟨e, a', w', hq, .of_steps (.one step_loop) harr⟩
/-- A round's end. -/
theorem x_round {α : Type} {J : α → (Nat → Value) → World → Prop} {μ : α → Nat} {g : α} (g' : α) (f' : Nat → Value) (e : f = f') (h : J g' f' w) (hm : μ g' < μ g) :
    Exit.then (fun a' w' => ∃ (g' : α) (f' : Nat → Value), a' = F n f' ∧ J g' f' w' ∧ μ g' < μ g) Q .normal (F n f) w := ⟨g', f', by rw [e], h, hm⟩
/-- What is left may be forgotten: a weaker reading of the frame and the world, behind which the walk goes on. -/
theorem s_forget {R : (Nat → Value) → World → Prop} (h : R f w) (hk : ∀ f w, R f w → c.wp P Q (F n f) w) : c.wp P Q (F n f) w := hk f w h
end

/-! ### Regions: in a given order. 'seqH': those marked true are taken first by a law (they only read); those marked false are carried out where they stand; S holds all the while. A region that draws no order: all false, S idle. -/
section
variable {P : Program} {ops : Array Oper} {Q : Exit → Act → World → Prop} {S : World → Prop}
def seqH (P : Program) (ops : Array Oper) (Q : Exit → Act → World → Prop) (S : World → Prop) (N : Act → World → Prop) : List (Bool × Oper) → Act → World → Prop
  | [], a, w => N a w
  | (true, o) :: rest, a, w => ∃ v, YieldsIf P ops S o v a ∧ S w ∧ seqH P ops Q S N rest (a.put o.dst v) w
  | (false, o) :: rest, a, w => if Region.wanted o (yielded ops a.tmps) then o.wp P a w (fun a' w' => S w' ∧ seqH P ops Q S N rest a' w') Q else S w ∧ seqH P ops Q S N rest (a.put o.dst undef) w

/-- S need hold only till the first of the closing operations Z -/
def needS (Z : List Nat) (listed : Array Bool) : Bool := Z.all fun z => !listed.getD z false
/-- every closing operation waits for 'i' -/
def waitsB (ops : Array Oper) (Z : List Nat) (i : Nat) : Bool := Z.all fun z => z != i && (match ops[z]? with | some oz => oz.after.any (fun e => Region.binds .any e && e.on == i) | none => false)
/-- the order is one of a region's: at each place what is marked true may be taken first, what is marked false is the only one that may come up; behind the closing operations one by one -/
def tailB (ops : Array Oper) (Z : List Nat) : List Nat → Array Bool → Bool
  | [], listed => Region.ready .any ops listed == []
  | i :: rest, listed => (Region.ready .any ops listed == [i]) && !needS Z (listed.setIfInBounds i true) && tailB ops Z rest (listed.setIfInBounds i true)
def orderB (ops : Array Oper) (Z : List Nat) (tl : List Nat) : List (Bool × Nat) → Array Bool → Bool
  | [], listed => tailB ops Z tl listed
  | (true, i) :: rest, listed => Region.free .any ops listed i && (Region.ready .any ops listed).contains i && waitsB ops Z i && needS Z listed && !Z.contains i && orderB ops Z tl rest (listed.setIfInBounds i true)
  | (false, i) :: rest, listed => (Region.ready .any ops listed == [i]) && orderB ops Z tl rest (listed.setIfInBounds i true)
def pick (ops : Array Oper) (l : List (Bool × Nat)) : List (Bool × Oper) := l.filterMap fun (b, i) => (ops[i]?).map fun o => (b, o)
def pickL (ops : Array Oper) (l : List Nat) : List Oper := l.filterMap fun i => ops[i]?

/-- the post lets a panic's frame be anything -/
def Calm (Q : Exit → Act → World → Prop) : Prop := ∀ (a : Act) (d : Option Tmp) (v : Value) c w, Q (.panic c) (a.put d v) w → Q (.panic c) a w
theorem Calm.then {Q : Exit → Act → World → Prop} (h : Calm Q) (K : Act → World → Prop) : Calm (Exit.then K Q) := fun a d v c w hq => h a d v c w hq
theorem Calm.inB {Q : Exit → Act → World → Prop} (h : Calm Q) (id : Nat) : Calm (Exit.inBlock id Q) := fun a d v c w hq => h a d v c w hq
theorem Calm.post (P : Program) (fn : Func) (R : Value → World → Prop) : Calm (Post P fn R) := fun a d v c w hq => by
  obtain ⟨h0, h⟩ := hq
  have : (a.put d v).defers = a.defers := by cases d <;> rfl
  exact ⟨by rw [← this]; exact h0, h⟩

/-- whatever order is picked, and S holds behind each operation till a closing one -/
def wpAnyZ (P : Program) (ops : Array Oper) (Q : Exit → Act → World → Prop) (S : World → Prop) (Z : List Nat) : Nat → Array Bool → Act → World → Prop
  | 0, listed, a, w => Region.ready .any ops listed = [] ∧ Q .normal a w
  | fuel + 1, listed, a, w =>
    (Region.ready .any ops listed = [] → Q .normal a w) ∧
    ∀ i ∈ Region.ready .any ops listed, wpOp P ops Q i (fun a' w' => (needS Z (listed.setIfInBounds i true) = true → S w') ∧ wpAnyZ P ops Q S Z fuel (listed.setIfInBounds i true) a' w') a w
theorem wpAny_of_Z {Z : List Nat} : ∀ (fuel : Nat) (listed : Array Bool) (a : Act) (w : World), wpAnyZ P ops Q S Z fuel listed a w → wpAny P .any ops Q fuel listed a w
  | 0, _, _, _, h => h
  | fuel + 1, _, _, _, h => ⟨h.1, fun i hi => wpOp_mono (fun a' w' h' => wpAny_of_Z fuel _ a' w' h'.2) (h.2 i hi)⟩
theorem needS_set {Z : List Nat} {listed : Array Bool} {i : Nat} (h : needS Z listed = true) (hi : Z.contains i = false) : needS Z (listed.setIfInBounds i true) = true := by
  unfold needS at *
  rw [List.all_eq_true] at *
  intro z hz
  have hzi : i ≠ z := by
    rintro rfl
    rw [List.contains_iff_mem.2 hz] at hi
    cases hi
  have := h z hz
  rwa [getD_set_ne false hzi]
theorem wpAnyZ_first {Z : List Nat} {i : Nat} {oi : Oper} {v : Value} (hi : ops[i]? = some oi) (hsel : ∀ (j : Nat) (o : Oper) cs b, ops[j]? = some o → o.op ≠ .select cs b)
    (hQ : ∀ c a w, Q (.panic c) (a.put oi.dst v) w → Q (.panic c) a w) (hZ : waitsB ops Z i = true) (hiZ : Z.contains i = false) :
    ∀ (fuel : Nat) (listed : Array Bool) (a : Act) (w : World),
      (∀ j oj, ops[j]? = some oj → j ≠ i → listed.getD j true = false → (∀ e ∈ oj.after, Region.binds .any e = true → e.on ≠ i) → oi.apart ops oj = true) →
      i ∈ Region.ready .any ops listed → needS Z listed = true → YieldsIf P ops S oi v a → S w →
      wpAnyZ P ops Q S Z fuel (listed.setIfInBounds i true) (a.put oi.dst v) w → wpAnyZ P ops Q S Z (fuel + 1) listed a w := by
  intro fuel
  induction fuel with
  | zero =>
    intro listed a w _ hr hn hy hS H
    refine ⟨fun h => (by rw [h] at hr; cases hr), fun j hj => ?_⟩
    by_cases hji : j = i
    · subst hji; exact hy.wpOp hi hS ⟨fun _ => hS, H⟩
    · have := ready_mono hj hji
      rw [H.1] at this
      cases this
  | succ fuel ih =>
    intro listed a w hfree hr hn hy hS H
    refine ⟨fun h => (by rw [h] at hr; cases hr), fun j hj => ?_⟩
    by_cases hji : j = i
    · subst hji; exact hy.wpOp hi hS ⟨fun _ => hS, H⟩
    · have h1 := H.2 j (ready_mono hj hji)
      obtain ⟨hjun, oj, hoj, hall⟩ := mem_ready.1 hj
      have hnot : ∀ e ∈ oj.after, Region.binds .any e = true → e.on ≠ i := fun e he hb heq => by
        have h1 := hall e he hb
        have h0 := (mem_ready.1 hr).1
        rw [heq] at h1
        rcases Nat.lt_or_ge i listed.size with h' | h'
        · simp [h'] at h0 h1; rw [h0] at h1; cases h1
        · simp [Array.getElem?_eq_none h'] at h1
      have hjZ : Z.contains j = false := by
        cases hc : Z.contains j with
        | false => rfl
        | true =>
          have hm := List.contains_iff_mem.1 hc
          have := List.all_eq_true.1 hZ j hm
          rw [hoj] at this
          simp only [Bool.and_eq_true] at this
          obtain ⟨e, he, hb⟩ := Array.any_eq_true'.1 this.2
          simp only [Bool.and_eq_true, beq_iff_eq] at hb
          exact absurd hb.2 (hnot e he hb.1)
      have hn' := needS_set hn hjZ
      have hn2 := needS_set (needS_set hn hiZ) hjZ
      have h2 := wpOp_putIf hoj (hfree j oj hoj hji hjun hnot) (fun cs b => hsel i oi cs b hi) (fun cs b => hsel j oj cs b hoj) hQ hy h1
      have hfree' : ∀ k ok, ops[k]? = some ok → k ≠ i → (listed.setIfInBounds j true).getD k true = false →
          (∀ e ∈ ok.after, Region.binds .any e = true → e.on ≠ i) → oi.apart ops ok = true := fun k ok hk hki hun hno => by
        refine hfree k ok hk hki ?_ hno
        by_cases hjk : j = k
        · subst hjk; exact hjun
        · rw [getD_set_ne true hjk] at hun; exact hun
      refine wpOp_mono (fun a' w' h3 => ⟨fun _ => h3.2.1 hn2, ih (listed.setIfInBounds j true) a' w' hfree' (ready_mono hr (Ne.symm hji)) hn' h3.1 (h3.2.1 hn2) ?_⟩) h2
      rw [Array.setIfInBounds_comm _ _ hji]
      exact h3.2.2

theorem tail_sound {Z : List Nat} : ∀ (l : List Nat) (listed : Array Bool) (a : Act) (w : World), tailB ops Z l listed = true →
      wpList P ops Q (pickL ops l) a w → wpAnyZ P ops Q S Z l.length listed a w := by
  intro l
  induction l with
  | nil =>
    intro listed a w hB h
    simp only [tailB, beq_iff_eq] at hB
    exact ⟨hB, h⟩
  | cons i l ih =>
    intro listed a w hB h
    simp only [tailB, Bool.and_eq_true, beq_iff_eq, Bool.not_eq_true'] at hB
    obtain ⟨⟨hr, hn⟩, hB'⟩ := hB
    have hi : ∃ o, ops[i]? = some o := by
      have := mem_ready.1 (by rw [hr]; simp : i ∈ Region.ready .any ops listed)
      obtain ⟨_, o, ho, _⟩ := this
      exact ⟨o, ho⟩
    obtain ⟨o, ho⟩ := hi
    have hp : pickL ops (i :: l) = o :: pickL ops l := by simp [pickL, ho]
    rw [hp] at h
    refine ⟨fun h0 => (by rw [h0] at hr; cases hr), fun j hj => ?_⟩
    rw [hr] at hj
    obtain rfl : j = i := by simpa using hj
    unfold wpOp
    simp only [ho]
    unfold wpList at h
    split at h
    · rename_i hw
      rw [if_pos hw]
      rcases h with h | h
      · exact .inl (Oper.wp_mono (fun a' w' h2 => ⟨fun hx => (by rw [hn] at hx; cases hx), ih _ _ _ hB' h2⟩) h)
      · exact .inr h
    · rename_i hw
      rw [if_neg hw]
      exact ⟨fun hx => (by rw [hn] at hx; cases hx), ih _ _ _ hB' h⟩

theorem seqH_sound {Z tl : List Nat} (hs : Region.noSelect ops = true) (hQ : Calm Q) :
    ∀ (l : List (Bool × Nat)) (listed : Array Bool) (a : Act) (w : World), orderB ops Z tl l listed = true →
      seqH P ops Q S (wpList P ops Q (pickL ops tl)) (pick ops l) a w → wpAnyZ P ops Q S Z (l.length + tl.length) listed a w := by
  intro l
  induction l with
  | nil =>
    intro listed a w hB h
    have := tail_sound (S := S) (Z := Z) tl listed a w hB h
    simpa using this
  | cons x l ih =>
    obtain ⟨b, i⟩ := x
    intro listed a w hB h
    rw [show ((b, i) :: l).length + tl.length = (l.length + tl.length) + 1 by simp; omega]
    cases b with
    | true =>
      simp only [orderB, Bool.and_eq_true, Bool.not_eq_true'] at hB
      obtain ⟨⟨⟨⟨⟨hf, hr⟩, hwt⟩, hn⟩, hiZ⟩, hB'⟩ := hB
      have hi : ∃ o, ops[i]? = some o := by
        have := mem_ready.1 (by simpa using hr : i ∈ Region.ready .any ops listed)
        obtain ⟨_, o, ho, _⟩ := this
        exact ⟨o, ho⟩
      obtain ⟨o, ho⟩ := hi
      have hp : pick ops ((true, i) :: l) = (true, o) :: pick ops l := by simp [pick, ho]
      rw [hp] at h
      obtain ⟨v, hy, hS, hk⟩ := h
      exact wpAnyZ_first ho (Region.noSelect_spec hs) (fun c a' w' hq => hQ _ _ _ _ _ hq) hwt hiZ _ listed a w (Region.free_spec ho hf) (by simpa using hr) hn hy hS (ih _ _ _ hB' hk)
    | false =>
      simp only [orderB, Bool.and_eq_true, beq_iff_eq] at hB
      obtain ⟨hr, hB'⟩ := hB
      have hi : ∃ o, ops[i]? = some o := by
        have := mem_ready.1 (by rw [hr]; simp : i ∈ Region.ready .any ops listed)
        obtain ⟨_, o, ho, _⟩ := this
        exact ⟨o, ho⟩
      obtain ⟨o, ho⟩ := hi
      have hp : pick ops ((false, i) :: l) = (false, o) :: pick ops l := by simp [pick, ho]
      rw [hp] at h
      refine ⟨fun h0 => (by rw [h0] at hr; cases hr), fun j hj => ?_⟩
      rw [hr] at hj
      obtain rfl : j = i := by simpa using hj
      unfold wpOp
      simp only [ho]
      unfold seqH at h
      split at h
      · rename_i hw
        rw [if_pos hw]
        exact .inl (Oper.wp_mono (fun a' w' ⟨h1, h2⟩ => ⟨fun _ => h1, ih _ _ _ hB' h2⟩) h)
      · rename_i hw
        rw [if_neg hw]
        exact ⟨fun _ => h.1, ih _ _ _ hB' h.2⟩

variable {n : Nat} {f : Nat → Value} {w : World} {id : Nat} {l : List Oper}
/-- A region that draws its order, its operations in an order that serves for all; 'Z': those behind which S need not hold, 'tl': from the first of those on. -/
theorem s_drawZ (order : List (Bool × Nat)) (Z tl : List Nat) (S : World → Prop) (hm : P.follows .mixedOrders = true)
    (hB : (Region.noSelect l.toArray && orderB l.toArray Z tl order (Array.replicate l.length false) && order.length + tl.length == l.length) = true) (hQ : Calm Q)
    (h : seqH P l.toArray Q S (wpList P l.toArray Q (pickL l.toArray tl)) (pick l.toArray order) (F n f) w.drew) : (Code.region id l.toArray true).wp P Q (F n f) w := by
  simp only [Bool.and_eq_true, beq_iff_eq] at hB
  obtain ⟨⟨hs, ho⟩, hl⟩ := hB
  refine wp_region_any hm (wpAny_of_Z (S := S) (Z := Z) _ _ _ _ ?_)
  have := seqH_sound (S := S) hs hQ order _ (F n f) w.drew ho h
  rw [hl] at this
  simpa using this
/-- A region that draws its order, its operations in an order that serves for all. -/
theorem s_draw (order : List (Bool × Nat)) (S : World → Prop) (hm : P.follows .mixedOrders = true)
    (hB : (Region.noSelect l.toArray && orderB l.toArray [] [] order (Array.replicate l.length false) && order.length + 0 == l.length) = true) (hQ : Calm Q)
    (h : seqH P l.toArray Q S (Q .normal) (pick l.toArray order) (F n f) w.drew) : (Code.region id l.toArray true).wp P Q (F n f) w := s_drawZ order [] [] S hm hB hQ h
/-- A region that draws no order. -/
theorem s_plain (h : wpList P l.toArray Q l (F n f) w) : (Code.region id l.toArray false).wp P Q (F n f) w := wp_region_lit h

variable {o : Oper} {rest : List Oper} {rest' : List (Bool × Oper)} {v : Value} {w' : World}
theorem p_nil (h : Q .normal (F n f) w) : wpList P ops Q [] (F n f) w := h
variable {N : Act → World → Prop}
theorem q_nil (h : N (F n f) w) : seqH P ops Q S N [] (F n f) w := h
/-- an operation that yields a value -/
theorem p_valO (hr : (execOp (ev n f) o).run P w = .ok (.value v) w') (hg : o.guard = none) (h : wpList P ops Q rest (F n (updo f o.dst v)) w') : wpList P ops Q (o :: rest) (F n f) w :=
  wpList_plain hg fun K hK => by
    unfold Oper.wp
    rw [eval_F, hr]
    exact hK _ _ (by rw [put_F]; exact h)
theorem p_skipO (hr : (execOp (ev n f) o).run P w = .ok .skip w') (hg : o.guard = none) (h : wpList P ops Q rest (F n (updo f o.dst undef)) w') : wpList P ops Q (o :: rest) (F n f) w :=
  wpList_plain hg fun K hK => by
    unfold Oper.wp
    rw [eval_F, hr]
    exact hK _ _ (by rw [put_F]; exact h)
theorem p_callO {k : FuncId} {args : List Value} {R : Value → World → Prop} (hr : (execOp (ev n f) o).run P w = .ok (.enter k args.toArray) w) (hg : o.guard = none) (hc : Ret P k args w R)
    (h : ∀ v w', R v w' → wpList P ops Q rest (F n (updo f o.dst v)) w') : wpList P ops Q (o :: rest) (F n f) w :=
  wpList_plain hg fun K hK => by
    unfold Oper.wp
    rw [eval_F, hr]
    refine Calls.mono hc fun e w' ⟨v, he, hv⟩ => ?_
    subst he
    exact hK _ _ (by rw [put_F]; exact h v w' hv)
theorem q_valO (hr : ∀ w, S w → (execOp (ev n f) o).run P w = .ok (.value v) w) (hg : o.guard = none) (hS : S w) (h : seqH P ops Q S N rest' (F n (updo f o.dst v)) w) : seqH P ops Q S N ((true, o) :: rest') (F n f) w :=
  ⟨v, .inl ⟨by simp [Region.wanted, hg], fun w hw => by rw [eval_F]; exact hr w hw⟩, hS, by rw [put_F]; exact h⟩
theorem q_effO (hr : (execOp (ev n f) o).run P w = .ok (.value v) w') (hg : o.guard = none) (hS : S w') (h : seqH P ops Q S N rest' (F n (updo f o.dst v)) w') : seqH P ops Q S N ((false, o) :: rest') (F n f) w := by
  unfold seqH
  rw [if_pos (by simp [Region.wanted, hg])]
  unfold Oper.wp
  rw [eval_F, hr]
  exact ⟨hS, by rw [put_F]; exact h⟩
theorem q_skipO (hr : (execOp (ev n f) o).run P w = .ok .skip w') (hg : o.guard = none) (hS : S w') (h : seqH P ops Q S N rest' (F n (updo f o.dst undef)) w') : seqH P ops Q S N ((false, o) :: rest') (F n f) w := by
  unfold seqH
  rw [if_pos (by simp [Region.wanted, hg])]
  unfold Oper.wp
  rw [eval_F, hr]
  exact ⟨hS, by rw [put_F]; exact h⟩
theorem q_callO {k : FuncId} {args : List Value} {R : Value → World → Prop} (hr : (execOp (ev n f) o).run P w = .ok (.enter k args.toArray) w) (hg : o.guard = none) (hc : Ret P k args w R)
    (h : ∀ v w', R v w' → S w' ∧ seqH P ops Q S N rest' (F n (updo f o.dst v)) w') : seqH P ops Q S N ((false, o) :: rest') (F n f) w := by
  unfold seqH
  rw [if_pos (by simp [Region.wanted, hg])]
  unfold Oper.wp
  rw [eval_F, hr]
  refine Calls.mono hc fun e w' ⟨v, he, hv⟩ => ?_
  subst he
  have := h v w' hv
  exact ⟨this.1, by rw [put_F]; exact this.2⟩

/-! guards -/
theorem yielded_F {j d : Nat} {oj : Oper} {b : Bool} (hj : ops[j]? = some oj) (hd : oj.dst = some d) (hv : ev n f (.tmp d) = .bool b) : yielded ops (F n f).tmps j = some b := by
  have h2 := F_getD n f d
  have h1 := F_getElem? n f d
  change (bif Nat.blt d n then f d else undef) = .bool b at hv
  unfold yielded
  simp only [hj, hd, Option.bind_some]
  by_cases h : d < n
  · have hb : Nat.blt d n = true := by simpa [Nat.blt_eq] using h
    rw [hb] at hv
    simp only [cond_true] at hv
    rw [h1, if_pos h, hv]
  · have hb : Nat.blt d n = false := by
      cases hb : Nat.blt d n with
      | false => rfl
      | true => exact absurd (by simpa [Nat.blt_eq] using hb) h
    rw [hb] at hv
    cases hv
theorem wanted_F {j d : Nat} {oj : Oper} {b want : Bool} (hg : o.guard = some (j, want)) (hj : ops[j]? = some oj) (hd : oj.dst = some d) (hv : ev n f (.tmp d) = .bool b) :
    Region.wanted o (yielded ops (F n f).tmps) = (b == want) := by
  unfold Region.wanted
  rw [hg]
  simp only [yielded_F hj hd hv]
  cases b <;> cases want <;> rfl
variable {j d : Nat} {oj : Oper} {want : Bool}
/-- the guard says no: nothing is done -/
theorem p_noO {b : Bool} (hg : o.guard = some (j, want)) (hj : ops[j]? = some oj) (hd : oj.dst = some d) (hv : ev n f (.tmp d) = .bool b) (hb : (b == want) = false) (h : wpList P ops Q rest (F n (updo f o.dst undef)) w) : wpList P ops Q (o :: rest) (F n f) w :=
  wpList_step fun K hK => by
    rw [wanted_F hg hj hd hv, hb, if_neg (by simp)]
    exact hK _ _ (by rw [put_F]; exact h)
theorem q_noO {b c : Bool} (hg : o.guard = some (j, want)) (hj : ops[j]? = some oj) (hd : oj.dst = some d) (hv : ev n f (.tmp d) = .bool b) (hb : (b == want) = false) (hS : S w) (h : seqH P ops Q S N rest' (F n (updo f o.dst undef)) w) : seqH P ops Q S N ((c, o) :: rest') (F n f) w := by
  cases c with
  | true => exact ⟨undef, .inr ⟨by rw [wanted_F hg hj hd hv, hb], rfl⟩, hS, by rw [put_F]; exact h⟩
  | false =>
    unfold seqH
    rw [wanted_F hg hj hd hv, hb, if_neg (by simp)]
    exact ⟨hS, by rw [put_F]; exact h⟩
/-- the guard says yes -/
theorem pg_valO {b : Bool} (hg : o.guard = some (j, want)) (hj : ops[j]? = some oj) (hd : oj.dst = some d) (hv : ev n f (.tmp d) = .bool b) (hb : (b == want) = true) (hr : (execOp (ev n f) o).run P w = .ok (.value v) w') (h : wpList P ops Q rest (F n (updo f o.dst v)) w') : wpList P ops Q (o :: rest) (F n f) w :=
  wpList_step fun K hK => by
    rw [wanted_F hg hj hd hv, hb, if_pos rfl]
    unfold Oper.wp
    rw [eval_F, hr]
    exact hK _ _ (by rw [put_F]; exact h)
theorem pg_callO {b : Bool} {k : FuncId} {args : List Value} {R : Value → World → Prop} (hg : o.guard = some (j, want)) (hj : ops[j]? = some oj) (hd : oj.dst = some d) (hv : ev n f (.tmp d) = .bool b) (hb : (b == want) = true) (hr : (execOp (ev n f) o).run P w = .ok (.enter k args.toArray) w) (hc : Ret P k args w R)
    (h : ∀ v w', R v w' → wpList P ops Q rest (F n (updo f o.dst v)) w') : wpList P ops Q (o :: rest) (F n f) w :=
  wpList_step fun K hK => by
    rw [wanted_F hg hj hd hv, hb, if_pos rfl]
    unfold Oper.wp
    rw [eval_F, hr]
    refine Calls.mono hc fun e w' ⟨v, he, hv⟩ => ?_
    subst he
    exact hK _ _ (by rw [put_F]; exact h v w' hv)
theorem qg_valO {b : Bool} (hg : o.guard = some (j, want)) (hj : ops[j]? = some oj) (hd : oj.dst = some d) (hv : ev n f (.tmp d) = .bool b) (hb : (b == want) = true) (hr : ∀ w, S w → (execOp (ev n f) o).run P w = .ok (.value v) w) (hS : S w) (h : seqH P ops Q S N rest' (F n (updo f o.dst v)) w) : seqH P ops Q S N ((true, o) :: rest') (F n f) w :=
  ⟨v, .inl ⟨by rw [wanted_F hg hj hd hv, hb], fun w hw => by rw [eval_F]; exact hr w hw⟩, hS, by rw [put_F]; exact h⟩
theorem qg_effO {b : Bool} (hg : o.guard = some (j, want)) (hj : ops[j]? = some oj) (hd : oj.dst = some d) (hv : ev n f (.tmp d) = .bool b) (hb : (b == want) = true) (hr : (execOp (ev n f) o).run P w = .ok (.value v) w') (hS : S w') (h : seqH P ops Q S N rest' (F n (updo f o.dst v)) w') : seqH P ops Q S N ((false, o) :: rest') (F n f) w := by
  unfold seqH
  rw [wanted_F hg hj hd hv, hb, if_pos rfl]
  unfold Oper.wp
  rw [eval_F, hr]
  exact ⟨hS, by rw [put_F]; exact h⟩
theorem qg_callO {b : Bool} {k : FuncId} {args : List Value} {R : Value → World → Prop} (hg : o.guard = some (j, want)) (hj : ops[j]? = some oj) (hd : oj.dst = some d) (hv : ev n f (.tmp d) = .bool b) (hb : (b == want) = true) (hr : (execOp (ev n f) o).run P w = .ok (.enter k args.toArray) w) (hc : Ret P k args w R)
    (h : ∀ v w', R v w' → S w' ∧ seqH P ops Q S N rest' (F n (updo f o.dst v)) w') : seqH P ops Q S N ((false, o) :: rest') (F n f) w := by
  unfold seqH
  rw [wanted_F hg hj hd hv, hb, if_pos rfl]
  unfold Oper.wp
  rw [eval_F, hr]
  refine Calls.mono hc fun e w' ⟨v, he, hv⟩ => ?_
  subst he
  have := h v w' hv
  exact ⟨this.1, by rw [put_F]; exact this.2⟩
variable {d0 : Option Tmp} {op0 : Op} {ty0 : TypeId} {ps0 : String} {af0 : Array Edge} {g0 : Option (Nat × Bool)}
theorem p_val (hr : (execOp (ev n f) { dst := d0, op := op0, type := ty0, pos := ps0, after := af0, guard := g0 }).run P w = .ok (.value v) w') (hg : g0 = none) (h : wpList P ops Q rest (F n (updo f d0 v)) w') : wpList P ops Q ({ dst := d0, op := op0, type := ty0, pos := ps0, after := af0, guard := g0 } :: rest) (F n f) w := p_valO hr hg h
theorem q_val (hr : ∀ w, S w → (execOp (ev n f) { dst := d0, op := op0, type := ty0, pos := ps0, after := af0, guard := g0 }).run P w = .ok (.value v) w) (hg : g0 = none) (hS : S w) (h : seqH P ops Q S N rest' (F n (updo f d0 v)) w) : seqH P ops Q S N ((true, { dst := d0, op := op0, type := ty0, pos := ps0, after := af0, guard := g0 }) :: rest') (F n f) w := q_valO hr hg hS h
theorem q_eff (hr : (execOp (ev n f) { dst := d0, op := op0, type := ty0, pos := ps0, after := af0, guard := g0 }).run P w = .ok (.value v) w') (hg : g0 = none) (hS : S w') (h : seqH P ops Q S N rest' (F n (updo f d0 v)) w') : seqH P ops Q S N ((false, { dst := d0, op := op0, type := ty0, pos := ps0, after := af0, guard := g0 }) :: rest') (F n f) w := q_effO hr hg hS h
theorem p_no {b : Bool} (hg : g0 = some (j, want)) (hj : ops[j]? = some oj) (hd : oj.dst = some d) (hv : ev n f (.tmp d) = .bool b) (hb : (b == want) = false) (h : wpList P ops Q rest (F n (updo f d0 undef)) w) : wpList P ops Q ({ dst := d0, op := op0, type := ty0, pos := ps0, after := af0, guard := g0 } :: rest) (F n f) w := p_noO hg hj hd hv hb h
theorem q_no {b c : Bool} (hg : g0 = some (j, want)) (hj : ops[j]? = some oj) (hd : oj.dst = some d) (hv : ev n f (.tmp d) = .bool b) (hb : (b == want) = false) (hS : S w) (h : seqH P ops Q S N rest' (F n (updo f d0 undef)) w) : seqH P ops Q S N ((c, { dst := d0, op := op0, type := ty0, pos := ps0, after := af0, guard := g0 }) :: rest') (F n f) w := q_noO hg hj hd hv hb hS h
theorem pg_val {b : Bool} (hg : g0 = some (j, want)) (hj : ops[j]? = some oj) (hd : oj.dst = some d) (hv : ev n f (.tmp d) = .bool b) (hb : (b == want) = true) (hr : (execOp (ev n f) { dst := d0, op := op0, type := ty0, pos := ps0, after := af0, guard := g0 }).run P w = .ok (.value v) w') (h : wpList P ops Q rest (F n (updo f d0 v)) w') : wpList P ops Q ({ dst := d0, op := op0, type := ty0, pos := ps0, after := af0, guard := g0 } :: rest) (F n f) w := pg_valO hg hj hd hv hb hr h
theorem qg_val {b : Bool} (hg : g0 = some (j, want)) (hj : ops[j]? = some oj) (hd : oj.dst = some d) (hv : ev n f (.tmp d) = .bool b) (hb : (b == want) = true) (hr : ∀ w, S w → (execOp (ev n f) { dst := d0, op := op0, type := ty0, pos := ps0, after := af0, guard := g0 }).run P w = .ok (.value v) w) (hS : S w) (h : seqH P ops Q S N rest' (F n (updo f d0 v)) w) : seqH P ops Q S N ((true, { dst := d0, op := op0, type := ty0, pos := ps0, after := af0, guard := g0 }) :: rest') (F n f) w := qg_valO hg hj hd hv hb hr hS h
theorem qg_eff {b : Bool} (hg : g0 = some (j, want)) (hj : ops[j]? = some oj) (hd : oj.dst = some d) (hv : ev n f (.tmp d) = .bool b) (hb : (b == want) = true) (hr : (execOp (ev n f) { dst := d0, op := op0, type := ty0, pos := ps0, after := af0, guard := g0 }).run P w = .ok (.value v) w') (hS : S w') (h : seqH P ops Q S N rest' (F n (updo f d0 v)) w') : seqH P ops Q S N ((false, { dst := d0, op := op0, type := ty0, pos := ps0, after := af0, guard := g0 }) :: rest') (F n f) w := qg_effO hg hj hd hv hb hr hS h
end
end Go.Proofs.Ytdhfiamgmokfbaa.E
