/- Plain words for grids: pairs, column by column, row by row; the faces at a place. No condition. -/
import Derived.Test.YtngogonepjicpaaDoorIsP1
namespace Go.Proofs.YtngogonepjicpaaDoor

/-- what f gives at each place of the columns ahead of c (h rows each) and at the rows ahead of r of column c -/
def upto (f : Nat → Nat → List (Int × Int)) (h c r : Nat) : List (Int × Int) := ((List.range c).flatMap fun x => (List.range h).flatMap (f x)) ++ (List.range r).flatMap (f c)
theorem upto_zero (f : Nat → Nat → List (Int × Int)) (h : Nat) : upto f h 0 0 = [] := rfl
theorem upto_row (f : Nat → Nat → List (Int × Int)) (h c r : Nat) : upto f h c (r + 1) = upto f h c r ++ f c r := by
  unfold upto
  rw [List.range_succ, List.flatMap_append, List.append_assoc]
  simp
theorem upto_col (f : Nat → Nat → List (Int × Int)) (h c : Nat) : upto f h c h = upto f h (c + 1) 0 := by
  unfold upto
  rw [List.range_succ (n := c), List.flatMap_append]
  simp
theorem flat_len (g : Nat → List (Int × Int)) (k : Nat) (hg : ∀ i, (g i).length ≤ k) : ∀ n, ((List.range n).flatMap g).length ≤ n * k := by
  intro n
  induction n with
  | zero => simp
  | succ n ih =>
    rw [List.range_succ, List.flatMap_append, List.length_append, Nat.succ_mul]
    have := hg n
    simp only [List.flatMap_cons, List.flatMap_nil, List.append_nil]
    omega
theorem upto_len (f : Nat → Nat → List (Int × Int)) (hf : ∀ x y, (f x y).length ≤ 2) (h c r : Nat) : (upto f h c r).length ≤ c * (h * 2) + r * 2 := by
  unfold upto
  rw [List.length_append]
  have h1 := flat_len (fun x => (List.range h).flatMap (f x)) (h * 2) (fun x => flat_len (f x) 2 (hf x) h) c
  have h2 := flat_len (f c) 2 (hf c) r
  omega
def stripAt (h L : Nat) (ring : Bool) (c r : Nat) : List (Int × Int) :=
  (if r + 1 < h then [((c : Int) * h + r, (c : Int) * h + r + 1)] else []) ++ (if c + 1 < L ∨ ring = true then [((c : Int) * h + r, (((c + 1) % L : Nat) : Int) * h + r)] else [])
def stripOf (h L : Nat) (ring : Bool) : List (Int × Int) := upto (stripAt h L ring) h L 0
def gridAt (h L c r : Nat) : List (Int × Int) :=
  (if r + 1 < h then [((c : Int) * h + r, (c : Int) * h + r + 1)] else []) ++ (if c + 1 < L then [((c : Int) * h + r, (c : Int) * h + r + h)] else [])
/-- the face at a place: the outer one beyond the edge -/
def faceOf (h L : Nat) (c r : Int) : Int := if c < 0 ∨ r < 0 ∨ (L : Int) - 1 ≤ c ∨ (h : Int) - 1 ≤ r then ((h : Int) - 1) * ((L : Int) - 1) else c * ((h : Int) - 1) + r
def faceAt (h L c r : Nat) : List (Int × Int) :=
  (if r + 1 < h then [(faceOf h L ((c : Int) - 1) r, faceOf h L c r)] else []) ++ (if c + 1 < L then [(faceOf h L c ((r : Int) - 1), faceOf h L c r)] else [])
theorem stripAt_len (h L : Nat) (ring : Bool) (c r : Nat) : (stripAt h L ring c r).length ≤ 2 := by
  unfold stripAt
  split <;> split <;> simp
theorem gridAt_len (h L c r : Nat) : (gridAt h L c r).length ≤ 2 := by
  unfold gridAt
  split <;> split <;> simp
theorem faceAt_len (h L c r : Nat) : (faceAt h L c r).length ≤ 2 := by
  unfold faceAt
  split <;> split <;> simp
theorem stripAt_grid (h L c r : Nat) : stripAt h L false c r = gridAt h L c r := by
  unfold stripAt gridAt
  congr 1
  by_cases e : c + 1 < L
  · rw [if_pos (Or.inl e), if_pos e, Nat.mod_eq_of_lt e]
    have : (((c + 1 : Nat) : Int)) * h + r = (c : Int) * h + r + h := by push_cast; rw [Int.add_mul]; omega
    rw [this]
  · rw [if_neg (by simp [e]), if_neg e]
theorem upto_congr (f g : Nat → Nat → List (Int × Int)) (h L : Nat) (e : ∀ c, c < L → ∀ r, f c r = g c r) : upto f h L 0 = upto g h L 0 := by
  unfold upto
  simp only [List.range_zero, List.flatMap_nil, List.append_nil]
  induction L with
  | zero => rfl
  | succ L ih =>
    rw [List.range_succ, List.flatMap_append, List.flatMap_append, ih (fun c hc => e c (by omega))]
    congr 1
    have : f L = g L := funext fun r => e L (by omega) r
    simp [this]
theorem stripOf_grid (h L : Nat) : stripOf h L false = upto (gridAt h L) h L 0 := upto_congr _ _ h L fun c _ r => stripAt_grid h L c r
theorem faceAt_eq (h L c r : Nat) (hc : c < L) (hr : r < h) : faceAt h L c r =
    (if r + 1 < h then [(if 0 < c then ((c : Int) - 1) * ((h : Int) - 1) + r else ((h : Int) - 1) * ((L : Int) - 1), if c + 1 < L then (c : Int) * ((h : Int) - 1) + r else ((h : Int) - 1) * ((L : Int) - 1))] else []) ++
    (if c + 1 < L then [(if 0 < r then (c : Int) * ((h : Int) - 1) + r - 1 else ((h : Int) - 1) * ((L : Int) - 1), if r + 1 < h then (c : Int) * ((h : Int) - 1) + r else ((h : Int) - 1) * ((L : Int) - 1))] else []) := by
  unfold faceAt
  congr 1
  · by_cases h1 : r + 1 < h
    · rw [if_pos h1, if_pos h1]
      have f1 : faceOf h L ((c : Int) - 1) r = if 0 < c then ((c : Int) - 1) * ((h : Int) - 1) + r else ((h : Int) - 1) * ((L : Int) - 1) := by
        unfold faceOf
        by_cases h2 : 0 < c
        · rw [if_pos h2, if_neg (by omega)]
        · rw [if_neg h2, if_pos (by omega)]
      have f2 : faceOf h L (c : Int) r = if c + 1 < L then (c : Int) * ((h : Int) - 1) + r else ((h : Int) - 1) * ((L : Int) - 1) := by
        unfold faceOf
        by_cases h2 : c + 1 < L
        · rw [if_pos h2, if_neg (by omega)]
        · rw [if_neg h2, if_pos (by omega)]
      rw [f1, f2]
    · rw [if_neg h1, if_neg h1]
  · by_cases h1 : c + 1 < L
    · rw [if_pos h1, if_pos h1]
      have f1 : faceOf h L (c : Int) ((r : Int) - 1) = if 0 < r then (c : Int) * ((h : Int) - 1) + r - 1 else ((h : Int) - 1) * ((L : Int) - 1) := by
        unfold faceOf
        by_cases h2 : 0 < r
        · rw [if_pos h2, if_neg (by omega)]; omega
        · rw [if_neg h2, if_pos (by omega)]
      have f2 : faceOf h L (c : Int) r = if r + 1 < h then (c : Int) * ((h : Int) - 1) + r else ((h : Int) - 1) * ((L : Int) - 1) := by
        unfold faceOf
        by_cases h2 : r + 1 < h
        · rw [if_pos h2, if_neg (by omega)]
        · rw [if_neg h2, if_pos (by omega)]
      rw [f1, f2]
    · rw [if_neg h1, if_neg h1]
def faceList (h L : Nat) : List (Int × Int) := upto (faceAt h L) h L 0
theorem prod_small {a b : Int} {m n : Nat} (h0 : 0 ≤ a) (h1 : a ≤ m) (h2 : 0 ≤ b) (h3 : b ≤ n) : ∃ q : Nat, a * b = q ∧ q ≤ m * n := by
  obtain ⟨a, rfl⟩ := Int.eq_ofNat_of_zero_le h0
  obtain ⟨b, rfl⟩ := Int.eq_ofNat_of_zero_le h2
  exact ⟨a * b, by push_cast; rfl, Nat.mul_le_mul (by omega) (by omega)⟩
end Go.Proofs.YtngogonepjicpaaDoor
