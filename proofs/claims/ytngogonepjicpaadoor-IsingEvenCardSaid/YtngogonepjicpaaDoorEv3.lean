/- The walks of ising.Even at a wrong system, of demonref4.evenFrom and of demonref4.EvenOf. No condition. -/
import Derived.Test.YtngogonepjicpaaDoorEv2
namespace Go.Proofs.YtngogonepjicpaaDoor
open Go.RowKit Go.Deep

set_option maxHeartbeats 1000000 in
theorem even_err (n : Int) (A : Option Addr) (l : List (Int × Int)) (cap : Nat) (w : World) (a : Nat → Addr) (hE : Env [2, 3] w a) (hP : Pairs w A l) (h : vcode n l ≠ 0) :
    Calls Tryd.prog 16 #[.agg #[.int .i64 n, .slice A l.length cap]] w fun e w' => e = .returned (.tuple #[.slice none 0 0, errC a (vcode n l)]) ∧ Below w.heap.size w w' := by
  have hv := valid_any n A l cap (w.alloc (.cells #[.int .i64 n, .slice A l.length cap] 35)) a (hE.below (below_alloc' (Below.refl _ _) _)) (hP.below (below_alloc' (Below.refl _ _) _))
  have he : errC a (vcode n l) = .iface 127 (.pointer (some (a (vcode n l).toNat))) := by unfold errC; rw [if_neg h]; rfl
  rw [he] at hv ⊢
  have HV := hide hv
  clear hv he h
  generalize a (vcode n l).toNat = a0 at HV ⊢
  go_enter Tryd.func16, Tryd.ntmps16
  go_wp2_with (go_at_call 28; refine HV.out.mono ?_; rintro e w1 ⟨rfl, hb1⟩)
  go_ret2
  exact ⟨rfl, below_trans (below_alloc' (Below.refl _ _) _) hb1⟩

theorem turn_go' (p1 p2 : Nat) (h1 : p1 < 14) (h2 : p2 < 14) : bits BinOp.xor IntKind.i64 (wrap64 (2 ^ p1)) (wrap64 (2 ^ p2)) = ((mask ((p1 : Int), (p2 : Int)) : Nat) : Int) := by
  have a1 : 2 ^ p1 ≤ 2 ^ 14 := Nat.pow_le_pow_right (by decide) (by omega)
  have a2 : 2 ^ p2 ≤ 2 ^ 14 := Nat.pow_le_pow_right (by decide) (by omega)
  rw [pow_wrap p1 h1, pow_wrap p2 h2, i64_xor _ _ (by omega) (by omega)]
  rfl
theorem mask_drop (l : List (Int × Int)) (m : Nat) (h : m < l.length) : (l.map mask).drop m = mask (l.getD m (0, 0)) :: (l.map mask).drop (m + 1) := by
  rw [List.drop_eq_getElem_cons (by simpa using h), getD_eq l m _ h]
  simp

/-- what evenFrom adds -/
def evAdd (l : List (Int × Int)) (at_ odd many i : Nat) : Nat := if many ≤ i then ev ((l.map mask).drop at_) odd (i - many) else 0
theorem evAdd_end (l : List (Int × Int)) (odd many i : Nat) : evAdd l l.length odd many i = if odd = 0 ∧ i = many then 1 else 0 := by
  unfold evAdd
  rw [List.drop_eq_nil_of_le (by simp)]
  unfold ev
  by_cases h : many ≤ i
  · rw [if_pos h]
    by_cases h2 : odd = 0 ∧ i = many
    · rw [if_pos (by omega), if_pos h2]
    · rw [if_neg (by omega), if_neg h2]
  · rw [if_neg h, if_neg (by omega)]
theorem evAdd_step (l : List (Int × Int)) (m odd many i : Nat) (h : m < l.length) : evAdd l m odd many i = evAdd l (m + 1) odd many i + evAdd l (m + 1) (odd ^^^ mask (l.getD m (0, 0))) (many + 1) i := by
  unfold evAdd
  rw [mask_drop l m h]
  by_cases h1 : many + 1 ≤ i
  · rw [if_pos (by omega), if_pos (by omega), if_pos h1]
    simp only [ev]
    rw [if_neg (by omega)]
    have : i - many - 1 = i - (many + 1) := by omega
    rw [this]
  · by_cases h2 : many ≤ i
    · have : i - many = 0 := by omega
      rw [if_pos h2, if_pos h2, if_neg h1]
      simp [ev, this]
    · rw [if_neg h2, if_neg h2, if_neg h1]
theorem evAdd_le (l : List (Int × Int)) (m odd many i : Nat) : evAdd l m odd many i ≤ 2 ^ (l.length - m) := by
  unfold evAdd
  split
  · have := ev_le ((l.map mask).drop m) odd (i - many)
    simpa using this
  · exact Nat.zero_le _

def EvPost (g m : Nat) (f : Nat → Nat) (w : World) (e : Ending) (w' : World) : Prop :=
  e = .returned (.tuple #[]) ∧ w'.rowIs g 3 m (fun i => .int .i64 (f i)) ∧ w.grownBy w' (some g)

theorem grown_alloc (w : World) (o : Obj) (r : Option Nat) : w.grownBy (w.alloc o) r := World.grownBy_alloc w o r
theorem grown_then {a b c : World} {r : Option Nat} (h : a.grownBy b r) (k : b.grownBy c r) : a.grownBy c r :=
  ⟨k.os.trans h.os, k.tape.trans h.tape, k.output.trans h.output, Nat.le_trans h.size k.size, fun i hi hne => (k.block i (Nat.lt_of_lt_of_le hi h.size) hne).trans (h.block i hi hne)⟩
theorem grown_set (w : World) (g i : Nat) (v : Value) : w.grownBy (w.setCell ⟨g, i, none⟩ v) (some g) :=
  ⟨rfl, rfl, rfl, by simp [World.setCell], fun k _ hne => blk_setCell_other w _ v k (fun e => hne (by rw [e]))⟩
theorem grown_drew {a b : World} {r : Option Nat} (h : a.grownBy b r) (n : Nat) : a.grownBy (b.drewN n) r := ⟨h.os, h.tape, h.output, h.size, h.block⟩
theorem grown_cells {w w' : World} {g : Nat} (hg : w.grownBy w' (some g)) : (∀ b o, b < w.heap.size → b ≠ g → w'.cell? ⟨b, o, none⟩ = w.cell? ⟨b, o, none⟩) ∧ (∀ b o, b < w.heap.size → b ≠ g → w'.frozen? ⟨b, o, none⟩ = w.frozen? ⟨b, o, none⟩) :=
  ⟨fun b o h hne => World.cell?_of_block (hg.block b h (by simp [hne])), fun b o h hne => World.frozen?_of_block (hg.block b h (by simp [hne]))⟩

set_option maxRecDepth 100000 in
set_option maxHeartbeats 2000000 in
theorem evenFrom_ok (n : Nat) (A : Option Addr) (l : List (Int × Int)) (cap : Nat) (w0 : World) (g : Nat) (hP : Pairs w0 A l) (hg0 : w0.heap.size ≤ g) (hn : n ≤ 14) (hl : l.length ≤ 12) (hg : Good n l l.length) :
    ∀ (d m odd many : Nat) (f : Nat → Nat) (w : World), m + d = l.length → Below w0.heap.size w0 w → w.rowIs g 3 (l.length + 1) (fun i => .int .i64 (f i)) → (∀ i, f i + 2 ^ d ≤ 2 ^ 32) → many ≤ m → odd < 2 ^ n →
    Calls Tryd.prog 52 #[.agg #[.int .i64 n, .slice A l.length cap], .int .i64 m, .int .i64 odd, .int .i64 many, .slice (some ⟨g, 0, none⟩) (l.length + 1) (l.length + 1)] w (EvPost g (l.length + 1) (fun i => f i + evAdd l m odd many i) w) := by
  intro d
  induction d with
  | zero =>
    intro m odd many f w hm hB hr hf hmany hodd
    obtain rfl : m = l.length := by omega
    have hglt := hr.lt
    by_cases ho : odd = 0
    · subst ho
      have c1 : w.cell? ⟨g, many, none⟩ = some (.int .i64 (f many : Int)) := hr.cell (by omega)
      have c2 := hr.frozen many
      have hfm := hf many
      have hset := hr.set many (Value.int .i64 ((f many : Int) + 1))
      generalize hq : f many = q at c1 hset hfm
      have HQ := hide hq
      clear hq
      go_enter Tryd.func52, Tryd.ntmps52
      go_wp2_with (fail)
      go_end0
      refine ⟨rfl, ?_, grown_then (grown_set _ _ _ _) (grown_alloc _ _ _)⟩
      refine (hset.of_block ((below_alloc' (Below.refl _ _) _).block g (by rw [nblk_setCell]; exact hglt))).congr fun i hi => ?_
      show _ = Value.int .i64 ((f i + evAdd l l.length 0 many i : Nat) : Int)
      rw [evAdd_end]
      by_cases e : i = many
      · subst e
        simp [HQ.out]
      · simp [e]
    · go_enter Tryd.func52, Tryd.ntmps52
      go_wp2_with (fail)
      go_end0
      refine ⟨rfl, ?_, grown_alloc _ _ _⟩
      refine (hr.of_block ((below_alloc' (Below.refl _ _) _).block g hglt)).congr fun i hi => ?_
      show _ = Value.int .i64 ((f i + evAdd l l.length odd many i : Nat) : Int)
      rw [evAdd_end, if_neg (by omega)]
      rfl
  | succ d ih =>
    intro m odd many f w hm hB hr hf hmany hodd
    have hlm : m < l.length := by omega
    have hglt := hr.lt
    have IH := hide ih
    clear ih
    have hP' := hP.below hB
    obtain ⟨b, off, rfl, hb, d1, d2⟩ := hP.at_ m hlm
    obtain ⟨g1, g2, g3, g4, _⟩ := badPair_of_false (hg.out m hlm)
    have hstep := fun i => evAdd_step l m odd many i hlm
    generalize hp : l.getD m (0, 0) = p at d1 d2 g1 g2 g3 g4 hstep
    obtain ⟨p1, p2⟩ := p
    simp only at d1 d2 g1 g2 g3 g4
    obtain ⟨p1, rfl⟩ := Int.eq_ofNat_of_zero_le g1
    obtain ⟨p2, rfl⟩ := Int.eq_ofNat_of_zero_le g2
    clear hp
    have hp1 : p1 < 14 := by omega
    have hp2 : p2 < 14 := by omega
    have hmk : mask ((p1 : Int), (p2 : Int)) < 2 ^ n := mask_lt g1 g2 g3 g4
    have hturn := turn_go' p1 p2 hp1 hp2
    have HTU := hide hturn
    have HMN := hide hmk
    have HST := hide hstep
    clear hturn hmk hstep
    go_enter Tryd.func52, Tryd.ntmps52
    go_wp2_with (fail)
    go_at_call 52
    refine (IH.out (m + 1) odd many f (w.alloc (.cells #[.int .i64 n, .slice (some ⟨b, off, none⟩) l.length cap] 24)) (by omega) ((hB.alloc hB.size _)) (hr.of_block ((below_alloc' (Below.refl _ _) _).block g hglt)) (fun i => by have := hf i; have := Nat.pow_succ 2 d; omega) (by omega) hodd).mono ?_
    rintro e w1 ⟨rfl, hr1, hg1⟩
    obtain ⟨k1, k2⟩ := grown_cells hg1
    have hbs := hB.size
    have hbg : b ≠ g := by omega
    have hwg : w.heap.size ≠ g := by omega
    have hs1 : w.heap.size < w1.heap.size := by have := hg1.size; simp at this; omega
    have y0 : w1.cell? ⟨w.heap.size, 0, none⟩ = some (.int .i64 n) := by rw [k1 _ _ (by simp) hwg]; simp
    have y1 : w1.cell? ⟨w.heap.size, 1, none⟩ = some (.slice (some ⟨b, off, none⟩) l.length cap) := by rw [k1 _ _ (by simp) hwg]; simp
    have z1 : w1.cell? ⟨b, off + m * 2, none⟩ = some (.int .i64 p1) := by rw [k1 _ _ (by simp; omega) hbg, (below_alloc' (Below.refl _ _) _).cell (by show b < w.heap.size; omega), hB.cell (by exact hb)]; exact d1
    have z2 : w1.cell? ⟨b, off + m * 2 + 1, none⟩ = some (.int .i64 p2) := by rw [k1 _ _ (by simp; omega) hbg, (below_alloc' (Below.refl _ _) _).cell (by show b < w.heap.size; omega), hB.cell (by exact hb)]; exact d2
    clear k1 k2
    go_wp2_with (fail)
    go_quiet (fail)
    go_wp2_with (fail)
    have hx : bits BinOp.xor IntKind.i64 (odd : Int) (bits BinOp.xor IntKind.i64 (wrap64 (2 ^ p1)) (wrap64 (2 ^ p2))) = ((odd ^^^ mask ((p1 : Int), (p2 : Int)) : Nat) : Int) := by
      have h14 : 2 ^ n ≤ 2 ^ 14 := Nat.pow_le_pow_right (by decide) hn
      have := HMN.out
      rw [HTU.out, i64_xor _ _ (by omega) (by omega)]
    rw [hx]
    have hB1 : Below w0.heap.size w0 (w1.drewN nq) := below_drewN' ((hB.alloc hB.size _).grown hg1 (by simp; omega) (fun x hx => by injection hx; omega)) nq
    go_at_call 52
    refine (IH.out (m + 1) (odd ^^^ mask ((p1 : Int), (p2 : Int))) (many + 1) (fun i => f i + evAdd l (m + 1) odd many i) (w1.drewN nq) (by omega) hB1 hr1 (fun i => by
      have h1 := hf i
      have h2 := Nat.pow_succ 2 d
      have h3 := evAdd_le l (m + 1) odd many i
      have h4 : l.length - (m + 1) = d := by omega
      rw [h4] at h3
      show f i + evAdd l (m + 1) odd many i + 2 ^ d ≤ 2 ^ 32
      omega) (by omega) (Nat.xor_lt_two_pow hodd HMN.out)).mono ?_
    rintro e w2 ⟨rfl, hr2, hg2⟩
    go_wp2_with (fail)
    go_end0
    refine ⟨rfl, hr2.congr fun i hi => ?_, grown_then (grown_alloc _ _ _) (grown_then (grown_drew hg1 nq) hg2)⟩
    have := HST.out i
    show Value.int .i64 ((f i + evAdd l (m + 1) odd many i + evAdd l (m + 1) (odd ^^^ mask ((p1 : Int), (p2 : Int))) (many + 1) i : Nat) : Int) = Value.int .i64 ((f i + evAdd l m odd many i : Nat) : Int)
    rw [this, Nat.add_assoc]

set_option maxHeartbeats 1000000 in
theorem evenOf_ok (n : Nat) (A : Option Addr) (l : List (Int × Int)) (cap : Nat) (w : World) (hP : Pairs w A l) (hn : n ≤ 14) (hl : l.length ≤ 12) (hg : Good n l l.length) :
    Calls Tryd.prog 31 #[.agg #[.int .i64 n, .slice A l.length cap]] w (RetInts (evenOf l) w) := by
  have hlen := hP.len
  go_enter Tryd.func31, Tryd.ntmps31
  go_wp2_with (first
    | (at_make; refine wp_make_ints _ rfl (.tmp 7) (.tmp 7) rfl .i64 .i64 (l.length + 1) rfl rfl (by omega) ?_; intro w2 hrow hb2 hz2; obtain ⟨k1, k2⟩ := below_cells hb2)
    | (go_at_call 52
       refine (evenFrom_ok n A l cap w (w.heap.size + 1) hP (by omega) hn hl hg l.length 0 0 0 (fun _ => 0) w2 (by omega) (below_trans (below_alloc' (Below.refl _ _) _) hb2) (by simpa using hrow) (fun i => by have : 2 ^ l.length ≤ 2 ^ 12 := Nat.pow_le_pow_right (by decide) hl; omega) (by omega) (Nat.two_pow_pos n)).mono ?_
       rintro e w3 ⟨rfl, hr3, hg3⟩))
  go_ret
  refine ⟨some ⟨w.heap.size + 1, 0, none⟩, l.length + 1, by rw [evenOf_length]; rfl, ?_, by rw [evenOf_length]; omega, (below_trans (below_alloc' (Below.refl _ _) _) hb2).grown hg3 (by simp at hz2; omega) (fun x hx => by injection hx; omega)⟩
  have hi := Ints.ofRow (f := fun k => (ev (l.map mask) 0 k : Int)) (hr3.congr fun i _ => by
    have : evAdd l 0 0 0 i = ev (l.map mask) 0 i := by
      unfold evAdd
      rw [if_pos (Nat.zero_le _), List.drop_zero, Nat.sub_zero]
    show Value.int .i64 ((0 + evAdd l 0 0 0 i : Nat) : Int) = Value.int .i64 ((ev (l.map mask) 0 i : Nat) : Int)
    rw [this, Nat.zero_add]) (by omega)
  exact hi
end Go.Proofs.YtngogonepjicpaaDoor
