/- A table that a printed function has made, as rows in blocks of their own that may be written; what the law SecretTable calls, as contracts. No condition but modest size. -/
import Derived.Test.YtieeefgkdfijdaaDoorSe7
import Derived.Test.YtieeefgkdfijdaaDoorSe9
import Derived.Deep.Slices
namespace Go.Proofs.YtieeefgkdfijdaaDoor
open Go.RowKit Go.Deep Go.Proofs.YtieeefgkdfijdaaDoorW.PrintWords

/-- M rows of c numbers each: the outer slice lies in block g, row j in block (h j) -/
structure Tab2 (w : World) (B g : Nat) (h cp : Nat → Nat) (M c : Nat) (f : Nat → Nat → Int) : Prop where
  outer : ∀ j, j < M → w.cell? ⟨g, j, none⟩ = some (.slice (some ⟨h j, 0, none⟩) c (cp j)) ∧ c ≤ cp j
  inner : ∀ j, j < M → ∀ i, i < c → w.cell? ⟨h j, i, none⟩ = some (.int .i64 (f j i)) ∧ w.frozen? ⟨h j, i, none⟩ = false
  inj : ∀ i, i < M → ∀ j, j < M → h i = h j → i = j
  apart : ∀ j, j < M → h j ≠ g
  base : ∀ j, j < M → B ≤ h j
theorem Tab2.congr {w : World} {B g : Nat} {h cp : Nat → Nat} {M c : Nat} {f f' : Nat → Nat → Int} (t : Tab2 w B g h cp M c f) (e : ∀ j, j < M → ∀ i, i < c → f j i = f' j i) : Tab2 w B g h cp M c f' :=
  ⟨t.outer, fun j hj i hi => by rw [← e j hj i hi]; exact t.inner j hj i hi, t.inj, t.apart, t.base⟩
theorem Tab2.set {w : World} {B g : Nat} {h cp : Nat → Nat} {M c : Nat} {f : Nat → Nat → Int} (t : Tab2 w B g h cp M c f) (m s : Nat) (hm : m < M) (v : Int) :
    Tab2 (w.setCell ⟨h m, s, none⟩ (.int .i64 v)) B g h cp M c (fun x y => if x = m ∧ y = s then v else f x y) := by
  refine ⟨fun j hj => ⟨?_, (t.outer j hj).2⟩, fun j hj i hi => ⟨?_, ?_⟩, t.inj, t.apart, t.base⟩
  · rw [World.cell?_setCell_other]
    · exact (t.outer j hj).1
    · intro e
      injection e with e _ _
      exact t.apart m hm e
  · by_cases e : j = m ∧ i = s
    · obtain ⟨rfl, rfl⟩ := e
      rw [if_pos ⟨rfl, rfl⟩]
      exact World.cell?_setCell_same _ _ _ (t.inner j hj i hi).1
    · rw [if_neg e, World.cell?_setCell_other]
      · exact (t.inner j hj i hi).1
      · intro e2
        injection e2 with e2 e3 _
        exact e ⟨t.inj j hj m hm e2.symm, e3.symm⟩
  · rw [World.frozen?_setCell]
    exact (t.inner j hj i hi).2
theorem Tab2.drewN {w : World} {B g : Nat} {h cp : Nat → Nat} {M c : Nat} {f : Nat → Nat → Int} (t : Tab2 w B g h cp M c f) (n : Nat) : Tab2 (w.drewN n) B g h cp M c f :=
  ⟨t.outer, t.inner, t.inj, t.apart, t.base⟩
theorem Tab2.lists {w : World} {B g : Nat} {h cp : Nat → Nat} {M c : Nat} {f : Nat → Nat → Int} (t : Tab2 w B g h cp M c f) (hM : M ≤ 9223372036854775807) (hc : c ≤ 9223372036854775807) : Lists w (some ⟨g, 0, none⟩) ((List.range M).map fun j => (List.range c).map fun i => f j i) :=
  ⟨by simpa using hM, fun j hj => by
    have hj' : j < M := by simpa using hj
    have e : ((List.range M).map fun j => (List.range c).map fun i => f j i).getD j [] = (List.range c).map fun i => f j i := by
      simp [List.getD_eq_getElem?_getD, List.getElem?_map, List.getElem?_range hj']
    rw [e]
    obtain ⟨h1, h2⟩ := t.outer j hj'
    have hI : Ints w (some ⟨h j, 0, none⟩) ((List.range c).map fun i => f j i) := ⟨by simpa using hc, fun i hi => by
      have hi' : i < c := by simpa using hi
      have h3 := (t.inner j hj' i hi').1
      have e2 : ((List.range c).map fun i => f j i).getD i 0 = f j i := by simp [List.getD_eq_getElem?_getD, List.getElem?_map, List.getElem?_range hi']
      rw [e2]
      exact ⟨h j, 0, rfl, World.block_lt_of_cell? w _ h3, by rw [Nat.zero_add]; exact h3⟩⟩
    exact ⟨g, 0, some ⟨h j, 0, none⟩, cp j, rfl, World.block_lt_of_cell? w _ h1, by rw [Nat.zero_add, h1]; simp, by simpa using h2, hI⟩⟩
theorem tab2_of_S {w : World} {base : Nat} {ok : Nat → Prop} {v : Value} {xs : List (List Int)} {c : Nat} (h : Kd.S (Kd.slice 3 (Kd.int .i64)) 33 w base ok v xs) (hM : 0 < xs.length) (hc : 0 < c) (hrow : ∀ j, j < xs.length → (xs.getD j []).length = c) :
    ∃ g cap hh cp, v = .slice (some ⟨g, 0, none⟩) xs.length cap ∧ xs.length ≤ cap ∧ base ≤ g ∧ Tab2 w base g hh cp xs.length c (fun j i => (xs.getD j []).getD i 0) := by
  obtain ⟨g, cap, rfl, hg, _, _⟩ := Kd.S_form h hM
  obtain ⟨A, cc, e, hle, _⟩ := Kd.S_reads h
  injection e with _ _ e
  subst e
  obtain ⟨f, _, inner, ho, hr⟩ := h
  have each : ∀ j, j < xs.length → ∃ q : Nat × Nat, w.cell? ⟨g, j, none⟩ = some (.slice (some ⟨q.1, 0, none⟩) c q.2) ∧ c ≤ q.2 ∧ (∀ i, i < c → w.cell? ⟨q.1, i, none⟩ = some (.int .i64 ((xs.getD j []).getD i 0)) ∧ w.frozen? ⟨q.1, i, none⟩ = false) ∧ f q.1 = j ∧ q.1 ≠ g ∧ base ≤ q.1 := by
    intro j hj
    have hp : xs.zipIdx[j]? = some (xs.getD j [], j) := Kd.zip_at (by rw [List.getD_eq_getElem?_getD, List.getElem?_eq_getElem hj]; rfl)
    obtain ⟨u, hu, hR⟩ := hr.2 j _ hp
    have hl := hrow j hj
    obtain ⟨g', cap', hu', hb', _, cells, hcells⟩ := Kd.R_form hR (by rw [hl]; exact hc)
    obtain ⟨A', c', hu2, hI, hle'⟩ := Ints.ofR hR
    have hblk := hR.1 g' (by rw [hu']; rfl)
    obtain ⟨⟨_, hne⟩, hfj⟩ := hblk
    rw [hu'] at hu2
    injection hu2 with e1 _ e2
    subst e1 e2
    rw [hl] at hu' hle'
    have hin : inner[j]? = some u := by
      have h1 : ((inner.drop (j * 1)).take 1)[0]? = some u := by
        have : ((inner.drop (j * 1)).take 1) = [u] := hu
        rw [this]
        rfl
      rw [List.getElem?_take_of_lt (by omega), List.getElem?_drop, Nat.mul_one, Nat.add_zero] at h1
      exact h1
    refine ⟨(g', cap'), ?_, hle', fun i hi => ⟨?_, frozen_of_row w g' i cells _ hcells⟩, hfj, fun e => hne (by have e' : g' = g := e; rw [e']; rfl), hb'⟩
    · have := ho.cells (g := g) rfl j _ hin
      rw [addr_add, Nat.zero_add, hu'] at this
      exact this
    · obtain ⟨b, off, e, _, hcell⟩ := hI.at_ i (by rw [hl]; exact hi)
      injection e with e
      injection e with e1 e2 _
      subst e1 e2
      rw [Nat.zero_add] at hcell
      exact hcell
  obtain ⟨q, hq⟩ := choose_lt each
  exact ⟨g, cap, fun j => (q j).1, fun j => (q j).2, rfl, hle, hg, ⟨fun j hj => ⟨(hq j hj).1, (hq j hj).2.1⟩, fun j hj => (hq j hj).2.2.1, fun i hi j hj e => by
    have h1 := (hq i hi).2.2.2.1
    have h2 := (hq j hj).2.2.2.1
    have e' : (q i).1 = (q j).1 := e
    rw [← h1, e', h2], fun j hj => (hq j hj).2.2.2.2.1, fun j hj => (hq j hj).2.2.2.2.2⟩⟩

theorem weights_ok (A : Option Addr) (l : List Int) (c : Nat) (w : World) (hA : Ints w A l) (hc : l.length ≤ c) (hl : l.length ≤ 2000000) :
    Calls Tryd.prog 28 #[.slice A l.length c] w fun e w' => e = .returned (.int .i64 (wErr l)) ∧ Below w.heap.size w w' := by
  refine (PSecretTable.demonref1_WeightsError.calls (l.length + 1) A c l (wErr l) w hA.toC hc (weightsError_f l hl)).mono ?_
  rintro e w' ⟨rfl, hd⟩
  exact ⟨rfl, drawn_below hd⟩
theorem tableE_ok (A : Option Addr) (t : List (List Int)) (c : Nat) (w : World) (hA : Lists w A t) (hc : t.length ≤ c) (hf : t.flatten.length ≤ 2000000) :
    Calls Tryd.prog 29 #[.slice A t.length c] w fun e w' => e = .returned (.int .i64 (tErr t)) ∧ Below w.heap.size w w' := by
  obtain ⟨k, hk⟩ := tableError_f t hf
  exact PSecretTable.demonref1_TableError.calls k A c t (tErr t) w hA.toC hc hk
theorem sameLists_ok (A B : Option Addr) (t u : List (List Int)) (c d : Nat) (w : World) (hA : Lists w A t) (hB : Lists w B u) (hc : t.length ≤ c) (hd : u.length ≤ d) (hl : t.length ≤ 2000000) (hf : t.flatten.length ≤ 2000000) :
    Calls Tryd.prog 32 #[.slice A t.length c, .slice B u.length d] w fun e w' => e = .returned (.bool (decide (t = u))) ∧ Below w.heap.size w w' := by
  refine (PSecretTable.demonref1_SameLists.calls _ A c t B d u _ w hA.toC hc hB.toC hd (sameLists_f t u hl hf)).mono ?_
  rintro e w' ⟨rfl, h⟩
  exact ⟨rfl, drawn_below h⟩
theorem intsS_ok (A : Option Addr) (l : List Int) (c : Nat) (w : World) (hA : Ints w A l) (hc : l.length ≤ c) (hl : l.length ≤ 2000000) :
    Calls Tryd.prog 31 #[.slice A l.length c] w fun e w' => ∃ B d, e = .returned (.slice B l.length d) ∧ Ints w' B l ∧ l.length ≤ d ∧ Below w.heap.size w w' := by
  refine (PSecretTable.demonlaw3_ints.calls A c l l w hA.toC hc (ints_f l hl)).mono ?_
  rintro e w' ⟨v0, rfl, hR, hb⟩
  obtain ⟨B, d, rfl, hI, hd⟩ := Ints.ofR hR
  exact ⟨B, d, rfl, hI, hd, hb⟩
theorem signs_tab2 (Ka La : Option Addr) (K : List Int) (L : List (List Int)) (kc lc : Nat) (w : World) (hK : Ints w Ka K) (hL : Lists w La L) (hkc : K.length ≤ kc) (hlc : L.length ≤ lc) (hg : GoodCipher K L) (M : Nat) (hM : (L.getD 0 []).length = M) (hM0 : 0 < M) (N : Nat) (hN : (N : Int) = topOf L.flatten 0) :
    Calls Tryd.prog 20 #[.agg #[.slice Ka K.length kc, .slice La L.length lc]] w fun e w' => ∃ g c h cp, e = .returned (.slice (some ⟨g, 0, none⟩) M c) ∧ M ≤ c ∧ w.heap.size ≤ g ∧ Tab2 w' w.heap.size g h cp M (N + 1) (fun m s => sgn K L m (s : Nat) L.length) ∧ Below w.heap.size w w' := by
  obtain ⟨k, hk⟩ := signs_f hg
  refine (PSecretTable.demonref3_SignsOf.calls k Ka kc K La lc L (signsOf K L) w hK.toC hkc hL.toC hlc hk).mono ?_
  rintro e w' ⟨v0, rfl, hS, hb⟩
  have hn : (topOf L.flatten 0 + 1).toNat = N + 1 := by omega
  have hlen : (signsOf K L).length = M := (signsOf_len K L).trans hM
  have hrow : ∀ j, j < (signsOf K L).length → (signsOf K L).getD j [] = signRow K L j (N + 1) := by
    intro j hj
    rw [getD_eq _ j [] hj]
    simp [signsOf, signTab, hn]
  obtain ⟨g, c, hh, cp, rfl, hle, hg', hT⟩ := tab2_of_S (c := N + 1) hS (by omega) (Nat.succ_pos N) (fun j hj => by rw [hrow j hj, signRow_len])
  rw [hlen] at hle hT ⊢
  exact ⟨g, c, hh, cp, rfl, hle, hg', hT.congr (fun j hj i hi => by
    show ((signsOf K L).getD j []).getD i 0 = _
    rw [hrow j (by omega)]
    unfold signRow
    simp [List.getD_eq_getElem?_getD, List.getElem?_map, List.getElem?_range hi]), hb⟩
theorem wErr_nat (l : List Int) : ∃ c : Nat, wErr l = (c : Int) ∧ c ≤ 8 := by
  rcases wErr_cases l with h | h | h
  · exact ⟨0, h, by decide⟩
  · exact ⟨2, h, by decide⟩
  · exact ⟨3, h, by decide⟩
theorem tErr_nat (t : List (List Int)) : ∃ c : Nat, tErr t = (c : Int) ∧ c ≤ 8 := by
  have hw : wcode 4096 t.flatten = 0 ∨ wcode 4096 t.flatten = 2 ∨ wcode 4096 t.flatten = 3 := by
    unfold wcode
    repeat' split
    all_goals simp
  unfold tErr
  split
  · exact ⟨2, rfl, by decide⟩
  · split
    · exact ⟨2, rfl, by decide⟩
    · split
      · exact ⟨3, rfl, by decide⟩
      · rcases hw with h | h | h
        · exact ⟨0, h, by decide⟩
        · exact ⟨2, h, by decide⟩
        · exact ⟨3, h, by decide⟩
end Go.Proofs.YtieeefgkdfijdaaDoor
