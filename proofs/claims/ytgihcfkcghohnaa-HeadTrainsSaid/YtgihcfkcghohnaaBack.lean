/- Chapter 17, in plain numbers: what is printed reads as itself; what is read is printed so. -/
import Derived.Test.YtgihcfkcghohnaaHcuts
namespace Go.Proofs.Ytgihcfkcghohnaa.Head
open Go.RowKit Go.Proofs.Ytgihcfkcghohnaa.Sk Go.Proofs.Ytgihcfkcghohnaa.Num Go.Proofs.Ytgihcfkcghohnaa.Wire

theorem le_leB (n : Nat) (v : Int) (h0 : 0 ≤ v) (h1 : v < 256 ^ n) : le (leB n v) = v := by
  induction n generalizing v with
  | zero => simp only [leB, le]; simp only [Int.pow_zero] at h1; omega
  | succ n ih =>
    simp only [leB, le]
    rw [Int.pow_succ] at h1
    rw [ih (v / 256) (by omega) (Int.ediv_lt_of_lt_mul (by decide) h1)]
    omega
theorem leB_le (xs : List Int) (h : ∀ x, x ∈ xs → 0 ≤ x ∧ x ≤ 255) : leB xs.length (le xs) = xs := by
  induction xs with
  | nil => rfl
  | cons x xs ih =>
    have hx := h x List.mem_cons_self
    simp only [List.length_cons, leB, le]
    rw [show (x + 256 * le xs) % 256 = x by omega, show (x + 256 * le xs) / 256 = le xs by omega, ih fun y hy => h y (List.mem_cons_of_mem _ hy)]
theorem high_pow (q : Int) (h0 : 0 ≤ (widthV q).1) (h : (widthV q).1 ≤ 2) (v : Int) (hv : v ≤ highV q) : v < 256 ^ (widthV q).1.toNat := by
  unfold highV at hv
  rw [pow256]
  rw [show (8 * (widthV q).1).toNat = 8 * (widthV q).1.toNat by omega] at hv
  omega
theorem parse_back (h : Hdr) (hm : h.may) (x y : List Int) : parseS (x ++ h.bytes ++ y) x.length = .ok (h, x.length + h.bytes.length) := by
  obtain ⟨g, v, q, f, l, c⟩ := h
  have hq := widthV_cases q
  have hp := fun z => high_pow q (v := z)
  rcases hq with hq | ⟨hq, hq1, hq2, hq3, hq4, hq5, hq6, hq7, hq8⟩
  · rw [hm.1] at hq; cases hq
  have hm' := hm
  unfold Hdr.may at hm
  simp only at hm
  obtain ⟨_, m1, m2, m3, m4, m5⟩ := hm
  replace hp := fun z hz => hp z hq2 hq3 hz
  have hl := (Hdr.mk g v q f l c).bytes_length
  dsimp only at hl
  unfold parseS
  have get : ∀ i, (x ++ (Hdr.mk g v q f l c).bytes ++ y).getD (x.length + i) 0 = ((Hdr.mk g v q f l c).bytes ++ y).getD i 0 := fun i => by
    rw [List.append_assoc, List.getD_eq_getElem?_getD, List.getElem?_append_right (by omega), Nat.add_sub_cancel_left, List.getD_eq_getElem?_getD]
  have get0 : (x ++ (Hdr.mk g v q f l c).bytes ++ y).getD x.length 0 = ((Hdr.mk g v q f l c).bytes ++ y).getD 0 0 := get 0
  rw [if_neg (by simp only [List.length_append]; split at hl <;> omega), Int.toNat_natCast, get0, get 1, get 2]
  have e2 : ((Hdr.mk g v q f l c).bytes ++ y).getD 2 0 = q := rfl
  have e1 : ((Hdr.mk g v q f l c).bytes ++ y).getD 1 0 = v := rfl
  have e0 : ((Hdr.mk g v q f l c).bytes ++ y).getD 0 0 = g := rfl
  simp only [e0, e1, e2, hq, Bool.true_eq_false, if_false]
  have ed : (x ++ (Hdr.mk g v q f l c).bytes ++ y).drop ((x.length : Int) + 3).toNat = ((Hdr.mk g v q f l c).bytes ++ y).drop 3 := by
    rw [show ((x.length : Int) + 3).toNat = x.length + 3 by omega, List.append_assoc, ← List.drop_drop, List.drop_left]
  rw [ed]
  by_cases hr : q = 0 ∨ q = 1
  · rw [if_pos hr] at m5 hl
    have hk := hq8 hr
    obtain ⟨m5, m6, m7, m8⟩ := m5
    have eb : ((Hdr.mk g v q f l c).bytes ++ y).drop 3 = leB (widthV q).1.toNat f ++ (leB (widthV q).1.toNat l ++ y) := by
      unfold Hdr.bytes
      simp [hr]
    simp only [if_pos hr, eb]
    have t1 : (leB (widthV q).1.toNat f ++ (leB (widthV q).1.toNat l ++ y)).take (widthV q).1.toNat = leB (widthV q).1.toNat f := List.take_left' (leB_length _ _)
    have t2 : (leB (widthV q).1.toNat f ++ (leB (widthV q).1.toNat l ++ y)).drop (widthV q).1.toNat = leB (widthV q).1.toNat l ++ y := List.drop_left' (leB_length _ _)
    have t3 : (leB (widthV q).1.toNat l ++ y).take (widthV q).1.toNat = leB (widthV q).1.toNat l := List.take_left' (leB_length _ _)
    rw [t1, t2, t3, le_leB _ f m5 (hp f (by omega)), le_leB _ l (by omega) (hp l (by omega)), ← m8, if_neg (by simp only [List.length_append]; omega), if_pos hm']
    congr 2
    omega
  · rw [if_neg hr] at m5 hl
    obtain ⟨rfl, rfl, m7⟩ := m5
    have eb : ((Hdr.mk g v q 0 0 c).bytes ++ y).drop 3 = leB (widthV q).1.toNat c ++ y := by
      unfold Hdr.bytes
      simp [hr]
    simp only [if_neg hr, eb]
    have t1 : (leB (widthV q).1.toNat c ++ y).take (widthV q).1.toNat = leB (widthV q).1.toNat c := List.take_left' (leB_length _ _)
    have hc : le (leB (widthV q).1.toNat c) = c := by
      by_cases h6 : q = 6
      · rw [if_pos h6] at m7
        subst h6 m7
        rfl
      · rw [if_neg h6] at m7
        exact le_leB _ c (by omega) (hp c m7.2)
    rw [t1, hc, if_neg (by simp only [List.length_append]; omega), if_pos hm']
    congr 2
    omega
/-- What is read is printed just so. -/
theorem parse_fwd (b : List Int) (hb : ∀ x, x ∈ b → 0 ≤ x ∧ x ≤ 255) (a : Int) (h : Hdr) (n : Int) (hp : parseS b a = .ok (h, n)) :
    h.may ∧ 0 ≤ a ∧ n = a + h.bytes.length ∧ n ≤ b.length ∧ (b.drop a.toNat).take h.bytes.length = h.bytes := by
  unfold parseS at hp
  by_cases h1 : a < 0 ∨ (b.length : Int) < a + 3
  · rw [if_pos h1] at hp; cases hp
  rw [if_neg h1] at hp
  have ec : b.drop a.toNat = b.getD a.toNat 0 :: b.getD (a.toNat + 1) 0 :: b.getD (a.toNat + 2) 0 :: b.drop (a + 3).toNat := by
    rw [List.drop_eq_getElem_cons (by omega), List.drop_eq_getElem_cons (by omega), List.drop_eq_getElem_cons (by omega), show (a + 3).toNat = a.toNat + 1 + 1 + 1 by omega]
    simp only [List.getD_eq_getElem?_getD]
    rw [List.getElem?_eq_getElem (by omega), List.getElem?_eq_getElem (by omega), List.getElem?_eq_getElem (by omega)]
    rfl
  have hlen : ((b.drop (a + 3).toNat).length : Int) = b.length - (a + 3) := by rw [List.length_drop]; omega
  have hbb : ∀ x, x ∈ b.drop (a + 3).toNat → 0 ≤ x ∧ x ≤ 255 := fun x hx => hb x (List.mem_of_mem_drop hx)
  rw [ec]
  generalize b.drop (a + 3).toNat = bb at *
  generalize b.getD a.toNat 0 = g at *
  generalize b.getD (a.toNat + 1) 0 = v at *
  generalize b.getD (a.toNat + 2) 0 = q at *
  simp only at hp
  rcases widthV_cases q with hq | ⟨hq, hq1, hq2, hq3, hq4, hq5, hq6, hq7, hq8⟩
  · rw [if_pos hq] at hp; cases hp
  rw [if_neg (by rw [hq]; decide)] at hp
  by_cases hs : (b.length : Int) - (a + 3) < (if q = 0 ∨ q = 1 then 2 * (widthV q).1 else (widthV q).1)
  · rw [if_pos hs] at hp; cases hp
  rw [if_neg hs] at hp
  by_cases hr : q = 0 ∨ q = 1
  · simp only [if_pos hr] at hp hs
    split at hp
    case isFalse => cases hp
    case isTrue hm =>
      simp only [Except.ok.injEq, Prod.mk.injEq] at hp
      obtain ⟨rfl, rfl⟩ := hp
      have l1 : (bb.take (widthV q).1.toNat).length = (widthV q).1.toNat := by rw [List.length_take]; omega
      have l2 : ((bb.drop (widthV q).1.toNat).take (widthV q).1.toNat).length = (widthV q).1.toNat := by rw [List.length_take, List.length_drop]; omega
      have r1 := leB_le (bb.take (widthV q).1.toNat) fun x hx => hbb x (List.mem_of_mem_take hx)
      have r2 := leB_le ((bb.drop (widthV q).1.toNat).take (widthV q).1.toNat) fun x hx => hbb x (List.mem_of_mem_drop (List.mem_of_mem_take hx))
      rw [l1] at r1
      rw [l2] at r2
      have eb : (Hdr.mk g v q (le (bb.take (widthV q).1.toNat)) (le ((bb.drop (widthV q).1.toNat).take (widthV q).1.toNat)) (le ((bb.drop (widthV q).1.toNat).take (widthV q).1.toNat) - le (bb.take (widthV q).1.toNat) + 1)).bytes = g :: v :: q :: (bb.take ((widthV q).1.toNat + (widthV q).1.toNat)) := by
        unfold Hdr.bytes
        simp only [if_pos hr, r1, r2]
        rw [List.take_add]
        rfl
      refine ⟨hm, by omega, ?_, ?_, ?_⟩
      · rw [eb]; simp only [List.length_cons, List.length_take]; omega
      · omega
      · rw [eb]
        simp only [List.length_cons, List.length_take, List.take_succ_cons]
        rw [show min ((widthV q).1.toNat + (widthV q).1.toNat) bb.length = (widthV q).1.toNat + (widthV q).1.toNat by omega]
  · simp only [if_neg hr] at hp hs
    split at hp
    case isFalse => cases hp
    case isTrue hm =>
      simp only [Except.ok.injEq, Prod.mk.injEq] at hp
      obtain ⟨rfl, rfl⟩ := hp
      have l1 : (bb.take (widthV q).1.toNat).length = (widthV q).1.toNat := by rw [List.length_take]; omega
      have r1 := leB_le (bb.take (widthV q).1.toNat) fun x hx => hbb x (List.mem_of_mem_take hx)
      rw [l1] at r1
      have eb : (Hdr.mk g v q 0 0 (le (bb.take (widthV q).1.toNat))).bytes = g :: v :: q :: bb.take (widthV q).1.toNat := by
        unfold Hdr.bytes
        simp only [if_neg hr, r1]
        rfl
      refine ⟨hm, by omega, ?_, ?_, ?_⟩
      · rw [eb]; simp only [List.length_cons, List.length_take]; omega
      · omega
      · rw [eb]
        simp only [List.length_cons, List.length_take, List.take_succ_cons]
        rw [show min (widthV q).1.toNat bb.length = (widthV q).1.toNat by omega]
end Go.Proofs.Ytgihcfkcghohnaa.Head
