/- What a shorter list of laid sentinels gives: each reads as an error of its own. Condition: the listed variables read as laid. -/
import Derived.Test.YtngogonepjicpaaDoorLaid
namespace Go.Proofs.YtngogonepjicpaaDoor
open Go.ChangeShapes Go.WideShapes Go.ChangeAt Go.RowKit

/-- the name and the text of a code's variable -/
def nm : Nat → String × List UInt8
  | 1 => ("demon/api.ErrText", [100, 101, 109, 111, 110, 58, 32, 116, 101, 120, 116]) | 2 => ("demon/api.ErrBound", [100, 101, 109, 111, 110, 58, 32, 98, 111, 117, 110, 100])
  | 3 => ("demon/api.ErrShape", [100, 101, 109, 111, 110, 58, 32, 115, 104, 97, 112, 101]) | 4 => ("demon/api.ErrZero", [100, 101, 109, 111, 110, 58, 32, 122, 101, 114, 111])
  | 5 => ("demon/api.ErrName", [100, 101, 109, 111, 110, 58, 32, 110, 97, 109, 101]) | 6 => ("demon/api.ErrNone", [100, 101, 109, 111, 110, 58, 32, 110, 111, 110, 101])
  | 7 => ("demon/api.ErrOrder", [100, 101, 109, 111, 110, 58, 32, 111, 114, 100, 101, 114]) | _ => ("demon/api.ErrKind", [100, 101, 109, 111, 110, 58, 32, 107, 105, 110, 100])
theorem nm_glob : ∀ c, Tryd.prog.globalNamed (nm c).1 = some (glob c)
  | 0 => glob8 | 1 => glob1 | 2 => glob2 | 3 => glob3 | 4 => glob4 | 5 => glob5 | 6 => glob6 | 7 => glob7 | 8 => glob8 | _ + 9 => glob8
theorem nm_type (c : Nat) : (Tryd.prog.globals[glob c]?).map (·.type) = some 32 := by
  refine globT _ ?_
  unfold glob
  split <;> decide
theorem sent_of (cs : List Nat) {W : World} (h : laidMet Tryd.prog ((cs.map nm).map sdat) W) : ∃ a, Sent cs W a := by
  obtain ⟨ps, hv, hpn, hrows⟩ := h
  obtain ⟨bs, hlen, hbnd, _, hall⟩ := sents_of_vars (cs.map nm) ps hv hpn hrows (fun x hx => by
    obtain ⟨c, _, rfl⟩ := List.mem_map.1 hx
    exact ⟨_, nm_glob c, nm_type c⟩)
  have hlen' : bs.length = cs.length := by simpa using hlen
  have key : ∀ c, c ∈ cs → ∃ i, ∃ (hi : i < cs.length) (hj : i < bs.length), cs[i] = c ∧ cs.idxOf c = i ∧ bs[cs.idxOf c]?.getD ⟨0, 0, none⟩ = bs[i] := fun c hc => by
    have h1 := List.idxOf_lt_length_of_mem hc
    refine ⟨cs.idxOf c, h1, by omega, List.getElem_idxOf h1, rfl, ?_⟩
    rw [List.getElem?_eq_getElem (by omega)]
    rfl
  refine ⟨fun c => bs[cs.idxOf c]?.getD ⟨0, 0, none⟩, ⟨⟨?_⟩, ?_, ?_⟩⟩
  · intro c hc
    obtain ⟨i, hi, hj, e1, _, e3⟩ := key c hc
    have := (hall i (by simpa using hi) hj).1
    rw [List.getElem_map, e1] at this
    show W.cell? ⟨glob c, 0, none⟩ = some (.iface 127 (.pointer (some (bs[cs.idxOf c]?.getD ⟨0, 0, none⟩))))
    rw [e3]
    simpa using World.var?_cell (nm_glob c) this 0
  · intro c hc
    obtain ⟨i, hi, hj, e1, _, e3⟩ := key c hc
    have := (hall i (by simpa using hi) hj).2
    show ∃ ca ta, W.heap[(bs[cs.idxOf c]?.getD ⟨0, 0, none⟩).block]? = some (.cells ca ta (0, 0))
    rw [e3]
    exact this
  · intro c hc d hd e
    obtain ⟨i, hi, hj, e1, e2, e3⟩ := key c hc
    obtain ⟨i', hi', hj', e1', e2', e3'⟩ := key d hd
    have e4 : bs[i] = bs[i'] := by rw [← e3, ← e3']; exact e
    have e5 : i = i' := by
      rcases Nat.lt_trichotomy i i' with h1 | h1 | h1
      · exact absurd e4 (List.pairwise_iff_getElem.1 hbnd i i' hj hj' h1)
      · exact h1
      · exact absurd e4.symm (List.pairwise_iff_getElem.1 hbnd i' i hj' hj h1)
    subst e5
    rw [← e1, ← e1']
end Go.Proofs.YtngogonepjicpaaDoor
