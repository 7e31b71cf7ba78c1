/- Between our words for memory and those of the printed texts: a slice that reads as a list, a table. No condition. -/
import Derived.Test.YtieeefgkdfijdaaDoorVoc
import Derived.Test.YtieeefgkdfijdaaDoorApp
import Derived.Test.YtieeefgkdfijdaaDoorWWords
import Derived.Test.YtieeefgkdfijdaaDoorWApart
namespace Go.Proofs.YtieeefgkdfijdaaDoor
open Go.RowKit Go.Deep Go.Proofs.YtieeefgkdfijdaaDoorW.PrintWords

theorem Ints.toC {w : World} {A : Option Addr} {l : List Int} (h : Ints w A l) : Kd.C (Kd.int .i64) w A l.length l := by
  refine ⟨rfl, h.len, fun hn => ?_⟩
  obtain ⟨b, off, rfl, _, _⟩ := h.at_ 0 hn
  refine ⟨_, rfl, fun j p hj => ⟨[.int .i64 p], rfl, rfl, fun i u hu => ?_⟩⟩
  have hjl : j < l.length := by
    rcases Nat.lt_or_ge j l.length with h1 | h1
    · exact h1
    · rw [List.getElem?_eq_none h1] at hj; cases hj
  obtain ⟨b', off', e, _, hc⟩ := h.at_ j hjl
  injection e with e
  injection e with e1 e2 _
  subst e1 e2
  have hi : i = 0 := by
    rcases Nat.eq_zero_or_pos i with h1 | h1
    · exact h1
    · rw [List.getElem?_eq_none (by simp; omega)] at hu; cases hu
  subst hi
  rw [addr_add]
  have hp : l.getD j 0 = p := by rw [List.getD_eq_getElem?_getD, hj]; rfl
  rw [hp] at hc
  simp at hu
  subst hu
  show w.cell? ⟨b, off + (j * 1 + 0), none⟩ = _
  rw [Nat.mul_one, Nat.add_zero]
  exact hc
theorem Ints.ofC {w : World} {g off : Nat} {l : List Int} (h : Kd.C (Kd.int .i64) w (some ⟨g, off, none⟩) l.length l) : Ints w (some ⟨g, off, none⟩) l :=
  ⟨h.2.1, fun i hi => by
    obtain ⟨ad, c, e, _, hK, hc⟩ := Kd.C_get h 0 i (by omega) (by omega)
    obtain rfl := Option.some.inj e
    have hK' : c = [.int .i64 (l.getD i 0)] := hK
    subst hK'
    have h1 := hc 0 _ rfl
    rw [addr_add] at h1
    have h2 : w.cell? ⟨g, off + i, none⟩ = some (.int .i64 (l.getD i 0)) := by
      have e1 : off + ((i : Int).toNat * (Kd.int IntKind.i64).sz + 0) = off + i := by
        show off + ((i : Int).toNat * 1 + 0) = off + i
        omega
      rw [e1] at h1
      exact h1
    exact ⟨g, off, rfl, World.block_lt_of_cell? w _ h2, h2⟩⟩
theorem Ints.ofR {w : World} {e base : Nat} {ok : Nat → Prop} {v : Value} {l : List Int} (h : Kd.R (Kd.int .i64) e w base ok v l) : ∃ A c, v = .slice A l.length c ∧ Ints w A l ∧ l.length ≤ c := by
  obtain ⟨A, c, rfl, hc, hC⟩ := Kd.R_reads h
  refine ⟨A, c, rfl, ?_, hc⟩
  rcases Nat.eq_zero_or_pos l.length with h0 | h0
  · rw [List.eq_nil_of_length_eq_zero h0]; exact Ints.nil w A
  · obtain ⟨g, cap, e1, _⟩ := Kd.R_form h h0
    injection e1 with e1
    subst e1
    exact Ints.ofC hC
theorem Lists.toC {w : World} {A : Option Addr} {l : List (List Int)} (h : Lists w A l) : Kd.C (Kd.slice 3 (Kd.int .i64)) w A l.length l := by
  refine ⟨rfl, h.len, fun hn => ?_⟩
  obtain ⟨b, off, _, _, rfl, _⟩ := h.at_ 0 hn
  refine ⟨_, rfl, fun j p hj => ?_⟩
  have hjl : j < l.length := by
    rcases Nat.lt_or_ge j l.length with h1 | h1
    · exact h1
    · rw [List.getElem?_eq_none h1] at hj; cases hj
  obtain ⟨b', off', A', c, e, _, hc, hle, hI⟩ := h.at_ j hjl
  injection e with e
  injection e with e1 e2 _
  subst e1 e2
  have hp : l.getD j [] = p := by rw [List.getD_eq_getElem?_getD, hj]; rfl
  rw [hp] at hc hle hI
  refine ⟨[.slice A' p.length c], rfl, ⟨A', c, rfl, hle, hI.toC⟩, fun i u hu => ?_⟩
  have hi : i = 0 := by
    rcases Nat.eq_zero_or_pos i with h1 | h1
    · exact h1
    · rw [List.getElem?_eq_none (by simp; omega)] at hu; cases hu
  subst hi
  simp at hu
  subst hu
  rw [addr_add]
  show w.cell? ⟨b, off + (j * 1 + 0), none⟩ = _
  rw [Nat.mul_one, Nat.add_zero]
  exact hc
theorem Lists.ofR {w : World} {e base : Nat} {ok : Nat → Prop} {v : Value} {l : List (List Int)} (h : Kd.R (Kd.slice 3 (Kd.int .i64)) e w base ok v l) : ∃ A c, v = .slice A l.length c ∧ Lists w A l ∧ l.length ≤ c := by
  obtain ⟨A, c, rfl, hc, hC⟩ := Kd.R_reads h
  refine ⟨A, c, rfl, ?_, hc⟩
  rcases Nat.eq_zero_or_pos l.length with h0 | h0
  · rw [List.eq_nil_of_length_eq_zero h0]; exact Lists.nil w A
  · obtain ⟨g, cap, e1, _⟩ := Kd.R_form h h0
    injection e1 with e1
    subst e1
    refine ⟨hC.2.1, fun i hi => ?_⟩
    obtain ⟨_, inner, ho, hr⟩ := h
    have hp : l[i]? = some (l.getD i []) := by rw [List.getD_eq_getElem?_getD, List.getElem?_eq_getElem hi]; rfl
    obtain ⟨u, hu, hR⟩ := hr.2 i _ hp
    obtain ⟨A', c', rfl, hI, hle⟩ := Ints.ofR hR
    have hin : inner[i]? = some (.slice A' (l.getD i []).length c') := by
      have h1 : ((inner.drop (i * 1)).take 1)[0]? = some (.slice A' (l.getD i []).length c') := by
        have : ((inner.drop (i * 1)).take 1) = [.slice A' (l.getD i []).length c'] := hu
        rw [this]
        rfl
      rw [List.getElem?_take_of_lt (by omega), List.getElem?_drop, Nat.mul_one, Nat.add_zero] at h1
      exact h1
    have hcell : w.cell? ⟨g, 0 + i, none⟩ = some (.slice A' (l.getD i []).length c') := by
      have := ho.cells (g := g) rfl i _ hin
      rw [addr_add] at this
      exact this
    exact ⟨g, 0, A', c', rfl, World.block_lt_of_cell? w _ hcell, hcell, hle, hI⟩
theorem drawn_below {w w' : World} (h : Drawn0 w w') : Below w.heap.size w w' := by
  obtain ⟨n, rfl⟩ := h
  exact below_drewN' (Below.refl _ _) n
theorem rd_getD (l : List Int) (i : Nat) : rd l (i : Int) = l.getD i 0 := rfl
end Go.Proofs.YtieeefgkdfijdaaDoor
