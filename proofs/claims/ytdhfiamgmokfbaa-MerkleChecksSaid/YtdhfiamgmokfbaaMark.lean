/- A row of bytes that a constant string is turned into: the run-time's mark on it. It proves no statement by itself. -/
import Derived.Test.YtdhfiamgmokfbaaOff
import Derived.Lib.SlBytesConst
set_option linter.unusedSimpArgs false
set_option linter.unusedVariables false
namespace Go.Proofs.Ytdhfiamgmokfbaa
open Go Go.RowKit
namespace E
section
variable {P : Program} {w0 w : World} {ex : List Nat} {ks : List (Option Nat)} {ps pp : List (Option Obj → Prop)}
theorem freeze_heap (w : World) (b k : Nat) (cs : Array Value) (t : TypeId) (h : w.heap[b]? = some (.cells cs t (0, 0))) : (w.freeze ⟨b, k, none⟩ 1).heap[b]? = some (.cells cs t (k, k + 1)) := by
  have hlt : b < w.heap.size := (Array.getElem?_eq_some_iff.1 h).1
  unfold World.freeze
  rw [if_neg (by decide)]
  show (w.heap.modify b _)[b]? = _
  rw [Array.getElem?_modify]
  simp [h]
theorem freeze_other (w : World) (b k c : Nat) (h : c ≠ b) : (w.freeze ⟨b, k, none⟩ 1).heap[c]? = w.heap[c]? := by
  unfold World.freeze
  rw [if_neg (by decide)]
  show (w.heap.modify b _)[c]? = _
  rw [Array.getElem?_modify, if_neg (fun e => h e.symm)]
theorem freeze_size (w : World) (b k : Nat) : (w.freeze ⟨b, k, none⟩ 1).heap.size = w.heap.size := by
  unfold World.freeze
  rw [if_neg (by decide)]
  exact Array.size_modify
theorem freeze_rest (w : World) (b k : Nat) : (w.freeze ⟨b, k, none⟩ 1).os = w.os ∧ (w.freeze ⟨b, k, none⟩ 1).tape = w.tape ∧ (w.freeze ⟨b, k, none⟩ 1).output = w.output := by
  unfold World.freeze
  rw [if_neg (by decide)]
  exact ⟨rfl, rfl, rfl⟩
theorem St.freeze (S : St w0 w ex ks ps) (i m : Nat) {b : Nat} {cs : Array Value} {t : TypeId} (p' : Option Obj → Prop) (hk : ks[i]? = some (some b)) (hb : w.heap[b]? = some (.cells cs t (0, 0))) (hp : p' (some (.cells cs t (m, m + 1)))) :
    St w0 (w.freeze ⟨b, m, none⟩ 1) ex ks (ps.set i p') := by
  have hlt := S.lt b (List.mem_of_getElem? hk)
  obtain ⟨r1, r2, r3⟩ := freeze_rest w b m
  refine ⟨by rw [r1]; exact S.os, by rw [r2]; exact S.tape, by rw [r3]; exact S.output, by rw [freeze_size]; exact S.size, fun k hk' hx => ?_, fun j k p h h' => ?_, fun c h => by rw [freeze_size]; exact S.lt c h, S.fresh, S.nodup⟩
  · have : k ≠ b := by
      rintro rfl
      rcases S.fresh k (List.mem_of_getElem? hk) with h | h
      · omega
      · exact hx h
    rw [freeze_other w b m k this]
    exact S.old k hk' hx
  · by_cases hij : j = i
    · subst hij
      rw [hk] at h
      cases h
      have hl : j < ps.length := by
        have := (List.getElem?_eq_some_iff.1 h').1
        simpa using this
      rw [List.getElem?_set_self hl] at h'
      cases h'
      show p' ((w.freeze ⟨b, m, none⟩ 1).heap[b]?)
      rw [freeze_heap w b m cs t hb]; exact hp
    · rw [List.getElem?_set_ne (Ne.symm hij)] at h'
      have := S.own j k p h h'
      cases k with
      | none => exact this
      | some c =>
        have hc : c ≠ b := by
          rintro rfl
          exact hij (S.nodup j i c h hk)
        show p ((w.freeze ⟨b, m, none⟩ 1).heap[c]?)
        rw [freeze_other w b m c hc]; exact this
variable {ρ : Operand → Value} {d : Option Nat} {t ty : TypeId} {x : Operand} {ps' : String} {af : Array Edge} {g : Option (Nat × Bool)}
theorem d_mark {e : TypeId} {k : Option Nat} {n c cap : Nat} {xs : List Value} (S : St w0 w ex ks pp) (i : Nat) (hk : ks[i]? = some k) (hp : pp[i]? = some (Rw e 1 n cap xs)) (hn : 0 < n) (hx : ρ x = .slice (at_ k) n c) (ht : P.underlying t = some (.slice e)) (he : P.underlying e = some (.int .u8)) :
    Does P ρ { dst := d, op := .convert t t x, type := ty, pos := ps', after := af, guard := g } w fun v w' => v = .slice (at_ k) n c ∧ St w0 w' ex ks (pp.set i (Fz n xs)) := by
  obtain ⟨hxl, h⟩ := S.own i _ _ hk hp
  rcases h with ⟨_, h0, _⟩ | ⟨cur, hc, hnc, hcm, hcs, htk⟩
  · omega
  · cases k with
    | none => cases hc
    | some b =>
      have hb : w.heap[b]? = some (.cells cur e (0, 0)) := hc
      have hsh : w.shape? b = some (e, cur.size) := by unfold World.shape?; rw [hb]
      refine .inl ⟨_, w.freeze ⟨b, cur.size, none⟩ 1, ?_, rfl, S.freeze i cur.size (Fz n xs) hk hb ⟨by omega, _, _, _, rfl, by omega, by simpa using htk⟩⟩
      show ((do pure (.value (← convert t t (ρ x)))) : Sem Next).run P w = _
      rw [hx]
      simp [convert, run_underlying ht, run_underlying he, markStringish, hsh]
end
end E
end Go.Proofs.Ytdhfiamgmokfbaa
