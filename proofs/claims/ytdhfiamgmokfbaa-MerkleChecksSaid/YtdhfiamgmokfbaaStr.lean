/- Strings out of bytes and back, the last bit turned, rows that are made, parts of rows. It proves no statement by itself. -/
import Derived.Test.YtdhfiamgmokfbaaCat
import Derived.Laws.IdiomStrings
import Derived.Laws.BytesArg
set_option linter.unusedSimpArgs false
set_option linter.unusedVariables false
namespace Go.Proofs.Ytdhfiamgmokfbaa.E
open Go Go.RowKit
theorem dec_ne {p q : Prop} [Decidable p] [Decidable q] (h : p ↔ q) (e : (decide p == decide q) = false) : False := by
  have : decide p = decide q := decide_eq_decide.2 h
  rw [this] at e
  cases hq : decide q <;> rw [hq] at e <;> cases e
def zsum : List Nat := List.replicate 32 0
theorem length_zsum : zsum.length = 32 := by simp [zsum]
theorem copy_all {z xs : List Value} {m n : Nat} (hz : z.length = n) (hx : xs.length = n) (hm : m = n) : (xs.take n ++ z.toArray.toList.drop (min m n)).toArray = xs.toArray := by
  subst hm
  rw [List.take_of_length_le (Nat.le_of_eq hx), List.drop_of_length_le (by simp [hz])]
  simp
def strOf (l : List Nat) : ByteArray := strOfNums (l.map fun (x : Nat) => (x : Int))
theorem strOf_list (l : List Nat) : (strOf l).toList = l.map UInt8.ofNat := by
  rw [ByteArray.toList_eq]
  unfold strOf
  rw [strOfNums_data, List.map_map]
  rfl
theorem u8s_inj : ∀ {a b : List Nat}, (∀ x ∈ a, x < 256) → (∀ x ∈ b, x < 256) → a.map UInt8.ofNat = b.map UInt8.ofNat → a = b
  | [], [], _, _, _ => rfl
  | [], _ :: _, _, _, h => by simp at h
  | _ :: _, [], _, _, h => by simp at h
  | x :: a, y :: b, ha, hb, h => by
    simp only [List.map_cons, List.cons.injEq] at h
    have h2 := congrArg UInt8.toNat h.1
    simp only [UInt8.toNat_ofNat'] at h2
    have := ha x (by simp)
    have := hb y (by simp)
    rw [u8s_inj (fun z hz => ha z (by simp [hz])) (fun z hz => hb z (by simp [hz])) h.2, show x = y by omega]
theorem strOf_beq {a b : List Nat} (ha : ∀ x ∈ a, x < 256) (hb : ∀ x ∈ b, x < 256) : (strOf a == strOf b) = decide (a = b) := by
  rw [beq_toListBytes, strOf_list, strOf_list]
  by_cases h : a = b
  · subst h; simp
  · have : ¬ a.map UInt8.ofNat = b.map UInt8.ofNat := fun e => h (u8s_inj ha hb e)
    simp [h, this]
theorem strOf_bne {a b : List Nat} (ha : ∀ x ∈ a, x < 256) (hb : ∀ x ∈ b, x < 256) : (strOf a != strOf b) = decide (¬ a = b) := by
  rw [bne, strOf_beq ha hb]; by_cases h : a = b <;> simp [h]
def xor1 (a : Int) : Int := a + 1 - 2 * (a % 2)
theorem nat_xor1 (n : Nat) : n ^^^ 1 = n + 1 - 2 * (n % 2) := by
  rcases Nat.mod_two_eq_zero_or_one n with h | h
  · have : n = 2 * (n / 2) := by omega
    rw [h]
    have e : n ^^^ 1 = n + 1 := by
      apply Nat.eq_of_testBit_eq
      intro i
      cases i with
      | zero => simp [Nat.testBit_zero]; omega
      | succ i =>
        rw [Nat.testBit_xor, Nat.testBit_succ, Nat.testBit_succ, Nat.testBit_succ]
        simp
        congr 1
        omega
    omega
  · have e : n ^^^ 1 = n - 1 := by
      apply Nat.eq_of_testBit_eq
      intro i
      cases i with
      | zero => simp [Nat.testBit_zero]; omega
      | succ i =>
        rw [Nat.testBit_xor, Nat.testBit_succ, Nat.testBit_succ, Nat.testBit_succ]
        simp
        congr 1
        omega
    omega
/-- a block of bytes that is only read -/
def Fz (n : Nat) (xs : List Value) : Option Obj → Prop := fun o => xs.length = n ∧ ∃ cs t fr, o = some (.cells cs t fr) ∧ n ≤ cs.size ∧ cs.toList.take n = xs
section
variable {w0 w : World} {ex : List Nat} {ks : List (Option Nat)} {ps : List (Option Obj → Prop)}
theorem St.rdFz (S : St w0 w ex ks ps) (i : Nat) {b n : Nat} {xs : List Value} (hk : ks[i]? = some (some b)) (hp : ps[i]? = some (Fz n xs)) : Rd w 1 (some ⟨b, 0, none⟩) n xs := by
  obtain ⟨hl, cs, t, fr, ho, hn, ht⟩ := S.own i _ _ hk hp
  refine ⟨by omega, fun j u hu => ⟨_, rfl, ?_⟩⟩
  rw [add_lit, cell_of_row w b j cs t fr (by simpa using ho)]
  rw [← ht, List.getElem?_take] at hu
  split at hu
  · simpa using hu
  · cases hu
theorem flat_take {α : Type} {c : α → List Value} {s : Nat} {xs : List α} (h : ∀ x ∈ xs, (c x).length = s) (m : Nat) : (xs.flatMap c).take (m * s) = (xs.take m).flatMap c := by
  induction xs generalizing m with
  | nil => simp
  | cons x xs ih =>
    cases m with
    | zero => simp
    | succ m =>
      have hx := h x (by simp)
      rw [List.flatMap_cons, List.take_succ_cons, List.flatMap_cons, ← ih (fun y hy => h y (by simp [hy])), List.take_append, hx, List.take_of_length_le (by rw [hx, Nat.add_mul]; omega), show (m + 1) * s - s = m * s by rw [Nat.add_mul]; omega]
theorem flat_drop {α : Type} {c : α → List Value} {s : Nat} {xs : List α} (h : ∀ x ∈ xs, (c x).length = s) (m : Nat) : (xs.flatMap c).drop (m * s) = (xs.drop m).flatMap c := by
  induction xs generalizing m with
  | nil => simp
  | cons x xs ih =>
    cases m with
    | zero => simp
    | succ m =>
      have hx := h x (by simp)
      rw [List.flatMap_cons, List.drop_succ_cons, ← ih (fun y hy => h y (by simp [hy])), List.drop_append, hx, List.drop_of_length_le (by rw [hx, Nat.add_mul]; omega), List.nil_append, show (m + 1) * s - s = m * s by rw [Nat.add_mul]; omega]
theorem Rd.take_f {α : Type} {c : α → List Value} {s n m : Nat} {A : Option Addr} {xs : List α} (hl : ∀ x ∈ xs, (c x).length = s) (h : Rd w s A n (xs.flatMap c)) (hm : m ≤ n) : Rd w s A m ((xs.take m).flatMap c) := by
  have := h.take hm
  rwa [flat_take hl] at this
theorem Rd.drop_f {α : Type} {c : α → List Value} {s n m cap : Nat} {A : Option Addr} {xs : List α} (hl : ∀ x ∈ xs, (c x).length = s) (h : Rd w s A n (xs.flatMap c)) (hm : m ≤ n) (hc : n ≤ cap) : Rd w s (if cap = m then A else A.map (·.add (m * s))) (n - m) ((xs.drop m).flatMap c) := by
  have := h.drop hm hc
  rwa [flat_drop hl] at this
theorem All32.len {L : List (List Nat)} (h : All32 L) : ∀ x ∈ L, (bv x).length = 32 := fun x hx => by rw [bv_length]; exact h x hx
theorem Rd.take_sv {n m : Nat} {A : Option Addr} {L : List (List Nat)} (hL : All32 L) (h : Rd w 32 A n (sv L)) (hm : m ≤ n) : Rd w 32 A m (sv (L.take m)) := Rd.take_f (c := bv) hL.len h hm
theorem Rd.drop_sv {n m cap : Nat} {A : Option Addr} {L : List (List Nat)} (hL : All32 L) (h : Rd w 32 A n (sv L)) (hm : m ≤ n) (hc : n ≤ cap) : Rd w 32 (if cap = m then A else A.map (·.add (m * 32))) (n - m) (sv (L.drop m)) := Rd.drop_f (c := bv) hL.len h hm hc
theorem All32.take {L : List (List Nat)} (h : All32 L) (m : Nat) : All32 (L.take m) := fun x hx => h x (List.mem_of_mem_take hx)
theorem All32.drop {L : List (List Nat)} (h : All32 L) (m : Nat) : All32 (L.drop m) := fun x hx => h x (List.mem_of_mem_drop hx)
theorem made_flat {α : Type} {c : α → List Value} {x : α} {z : Array Value} (h : z.toList = c x) (n : Nat) : (madeCells z (n * z.size)).toList = (List.replicate n x).flatMap c := by
  have hl : ∀ y ∈ List.replicate n x, (c y).length = z.size := fun y hy => by rw [(List.mem_replicate.1 hy).2, ← h]; simp
  apply List.ext_getElem?
  intro j
  by_cases hj : j < n * z.size
  · have hs : 0 < z.size := by
      rcases Nat.eq_zero_or_pos z.size with h0 | h0
      · rw [h0] at hj; omega
      · exact h0
    have hd : j / z.size < n := (Nat.div_lt_iff_lt_mul hs).2 hj
    have hm : j % z.size < z.size := Nat.mod_lt _ hs
    have e := flatMap_at (c := c) hl (i := j / z.size) (j := j % z.size) (x := x) (by rw [List.getElem?_replicate, if_pos hd]) hm
    rw [show j / z.size * z.size + j % z.size = j by rw [Nat.mul_comm]; exact Nat.div_add_mod j z.size] at e
    rw [e, ← h]
    simp only [madeCells, Array.toList_map, List.getElem?_map, Array.toList_range, List.getElem?_range hj, Option.map_some, Array.getElem?_toList]
    rw [getElem!_pos z _ hm, Array.getElem?_eq_getElem hm]
  · rw [List.getElem?_eq_none (by rw [Array.length_toList, size_madeCells]; omega), List.getElem?_eq_none (by rw [flatMap_len hl, List.length_replicate]; omega)]
end
section
variable {P : Program} {ρ : Operand → Value} {d : Option Tmp} {x y : Operand} {t ty yt : TypeId} {ps : String} {af : Array Edge} {g : Option (Nat × Bool)} {w w0 : World} {k : IntKind} {ex : List Nat} {ks : List (Option Nat)} {pp : List (Option Obj → Prop)}
theorem e_bytesStr {A : Option Addr} {n c : Nat} {l : List Nat} {s e : TypeId} (hx : ρ x = .slice A n c) (hs : P.underlying s = some (.slice e)) (he : P.underlying e = some (.int .u8)) (ht : P.underlying t = some .string) (R : Rd w 1 A n (bv l)) :
    (execOp ρ { dst := d, op := .convert s t x, type := ty, pos := ps, after := af, guard := g }).run P w = .ok (.value (.string (strOf l))) w := by
  have hl : l.length = n := by simpa using R.1
  have key : (convert s t (.slice A n c)).run P w = .ok (.string (strOf l)) w := by
    rw [run_convert_bytes_string w s t e A n c hs he ht]
    cases A with
    | none =>
      have : l = [] := by
        cases l with
        | nil => rfl
        | cons a l => obtain ⟨ad, h, _⟩ := R.2 0 _ rfl; cases h
      subst this
      simp [Conv.bytesToString, strOf, strOfNums, ByteArray.empty, ByteArray.emptyWithCapacity]
      rfl
    | some a =>
      have hr := run_loadCells_list (P := P) w a (bv l) (fun j v hv => R.cell hv)
      rw [bv_length, hl] at hr
      have e1 : bv l = (l.map fun (x : Nat) => (x : Int)).map (Value.int .u8) := by simp [bv]
      rw [e1] at hr
      rw [run_bytesToString w a n c _ hr, foldl_push_bytes]
      simp [strOf, strOfNums, ByteArray.empty, ByteArray.emptyWithCapacity]
      rfl
  show ((do pure (.value (← convert s t (ρ x)))) : Sem Next).run P w = _
  rw [hx]
  simp only [Sem.run_bind, key, Result.andThen_ok, Sem.run_pure]
theorem e_eqlT {u v : List Nat} (hx : ρ x = .string (strOf u)) (hy : ρ y = .string (strOf v)) (hu : ∀ z ∈ u, z < 256) (hv : ∀ z ∈ v, z < 256) : (execOp ρ { dst := d, op := .binOp .eql t x y yt, type := ty, pos := ps, after := af, guard := g }).run P w = .ok (.value (.bool (decide (u = v)))) w := by
  rw [← strOf_beq hu hv]; exact e_eqlS hx hy
theorem e_neqT {u v : List Nat} (hx : ρ x = .string (strOf u)) (hy : ρ y = .string (strOf v)) (hu : ∀ z ∈ u, z < 256) (hv : ∀ z ∈ v, z < 256) : (execOp ρ { dst := d, op := .binOp .neq t x y yt, type := ty, pos := ps, after := af, guard := g }).run P w = .ok (.value (.bool (decide (¬ u = v)))) w := by
  rw [← strOf_bne hu hv]; exact e_neqS hx hy
/-- copy to the front of a block of its own -/
theorem d_copy0 {e : TypeId} {b dn dc m c u : Nat} {A : Option Addr} {cs : Array Value} {news : List Value} {bt : TypeId} (S : St w0 w ex ks pp) (i : Nat) (hk : ks[i]? = some (some b)) (hp : pp[i]? = some (Ex cs bt))
    (ht : P.underlying t = some (.slice e)) (hi : (P.info? e).map (·.size) = some 1) (hx : ρ x = .slice (some ⟨b, 0, none⟩) dn dc) (hy : ρ y = .slice A m c) (hr : Rd w 1 A m news) (h1 : ∀ u ∈ news, u.oneCell' = true) (hfit : min m dn ≤ cs.size) :
    Does P ρ { dst := d, op := .call { callee := .builtin .copy, args := #[x, y], argTypes := #[t, u] }, type := ty, pos := ps, after := af, guard := g } w
      fun v w' => v = .int .i64 ((min m dn : Nat) : Int) ∧ St w0 w' ex ks (pp.set i (Ex (news.take dn ++ cs.toList.drop (min m dn)).toArray bt)) := by
  have h := d_copy (P := P) (ρ := ρ) (d := d) (x := x) (y := y) (t := t) (ty := ty) (ps := ps) (af := af) (g := g) (u := u) (off := 0) S i hk hp ht hi (by rw [hx, add_zero]) hy hr h1 (by omega)
  simpa only [List.take_zero, List.nil_append, Nat.zero_add] using h
/-- '[]byte(s)' of a string that is known -/
theorem d_strBytes {s : ByteArray} {sr e : TypeId} (S : St w0 w ex ks pp) (l : List Nat) (hx : ρ x = .string s) (hs : P.underlying sr = some .string) (hd : P.underlying t = some (.slice e)) (he : P.underlying e = some (.int .u8)) (hl : s.data.toList.map (·.toNat) = l) :
    Does P ρ { dst := d, op := .convert sr t x, type := ty, pos := ps, after := af, guard := g } w fun v w' => ∃ b c, v = .slice (some ⟨b, 0, none⟩) l.length c ∧ l.length ≤ c ∧ St w0 w' ex (some b :: ks) (Fz l.length (bv l) :: pp) := by
  have hr := run_bytes_of_string (P := P) w sr t e s hs hd he
  have hsz : s.size = l.length := by
    rw [← hl, List.length_map, Array.length_toList]
    rfl
  have hrow : (bytesRow s (grownCap w s.size 0 e)).toList = bv l ++ List.replicate (grownCap w s.size 0 e - s.size) (.int .u8 0) := by
    unfold bytesRow
    rw [Array.toList_append, Array.toList_map, Array.toList_replicate, ← hl]
    simp [bv]
  have hge := grownCap_ge w s.size 0 e
  refine .inl ⟨_, _, ?_, w.heap.size, grownCap w s.size 0 e, rfl, ?_, S.drew.alloc (.cells (bytesRow s (grownCap w s.size 0 e)) e ((bytesRow s (grownCap w s.size 0 e)).size, (bytesRow s (grownCap w s.size 0 e)).size + 1)) _ ⟨by rw [bv_length], _, _, _, rfl, ?_, ?_⟩⟩
  · show ((do pure (.value (← convert sr t (ρ x)))) : Sem Next).run P w = _
    rw [hx]
    simp only [Sem.run_bind, hr, Result.andThen_ok, Sem.run_pure, hsz]
  · omega
  · rw [← Array.length_toList, hrow, List.length_append, bv_length]; omega
  · rw [hrow, ← bv_length l, List.take_left]
theorem bits_xor1 {a : Int} (h : 0 ≤ a ∧ a < 9223372036854775807) : bits .xor .i64 a 1 = xor1 a := by
  obtain ⟨n, rfl⟩ := Int.eq_ofNat_of_zero_le h.1
  show IntKind.i64.wrap ((BitVec.ofInt 64 (n : Int) ^^^ BitVec.ofInt 64 1).toNat : Int) = _
  have e1 : (BitVec.ofInt 64 1).toNat = 1 := by decide
  rw [BitVec.toNat_xor, ofInt_nat, e1, Nat.mod_eq_of_lt (by omega), nat_xor1, IntWalk.i64_in _ (by omega), xor1]
  omega
theorem e_xor1 {a : Int} (hx : ρ x = .int .i64 a) (hy : ρ y = .int .i64 1) (h : 0 ≤ a ∧ a < 9223372036854775807) : (execOp ρ { dst := d, op := .binOp .xor t x y yt, type := ty, pos := ps, after := af, guard := g }).run P w = .ok (.value (.int .i64 (xor1 a))) w :=
  e_int .xor hx hy fun w => by
    show (Op.intBits .xor .i64 a 1).run P w = _
    unfold Op.intBits
    exact congrArg (fun z => Result.ok (Value.int .i64 z) w) (bits_xor1 h)
/-- a row of n zero values -/
theorem d_makeN {α : Type} {c : α → List Value} {z0 : α} {e : TypeId} {size bytes : Nat} {z : Value} (S : St w0 w ex ks pp) (ht : P.underlying t = some (.slice e)) (he : El P e size bytes) (hz0 : Zv P e z) (h1 : z.cells.toList = c z0) (n : Nat) {kl kc : IntKind} (hx : ρ x = .int kl (n : Int)) (hy : ρ y = .int kc (n : Int)) (hb : bytes * n ≤ 281474976710656) (h63 : n ≤ maxLen) :
    Does P ρ { dst := d, op := .makeSlice t x y, type := ty, pos := ps, after := af, guard := g } w fun v w' => ∃ b, v = .slice (at_ (some b)) n n ∧ St w0 w' ex (some b :: ks) (Rw e size n n ((List.replicate n z0).flatMap c) :: pp) := by
  obtain ⟨⟨i, z', hi, hz, hsz, hby, hzs⟩, hpos⟩ := he
  have ez : z' = z := by
    have h := hz0 w
    simp [zeroValue, typeInfo, hi, hz] at h
    exact h
  subst ez
  have h9 : (n : Int) ≤ 9223372036854775807 := by unfold maxLen at h63; omega
  have hr := run_make (P := P) w t e i z' ht hi hz kl kc (n : Int) (n : Int) (by omega) (Int.le_refl _) (by rw [hby, ← Int.natCast_mul]; omega) h9
  have hm := made_flat (c := c) h1 n
  rw [hzs] at hm
  have hlen : ((List.replicate n z0).flatMap c).length = n * size := by rw [← hm, Array.length_toList, size_madeCells]
  refine .inl ⟨_, _, ?_, w.heap.size, rfl, S.alloc (.cells (madeCells z'.cells (n * size)) e) _ ⟨hlen, .inr ⟨_, rfl, Nat.le_refl _, h63, by rw [size_madeCells], by rw [hm, List.take_of_length_le (by omega)]⟩⟩⟩
  show ((do pure (.value (← Instr.makeSlice t (ρ x) (ρ y)))) : Sem Next).run P w = _
  rw [hx, hy]
  simp only [Sem.run_bind, hr, Result.andThen_ok, Sem.run_pure, Int.toNat_natCast, hsz]
  rfl
end
end Go.Proofs.Ytdhfiamgmokfbaa.E
