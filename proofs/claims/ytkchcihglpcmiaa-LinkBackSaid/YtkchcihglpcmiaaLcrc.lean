/- Chapter 14, in plain numbers: one byte changed is seen. -/
import Derived.Test.YtkchcihglpcmiaaLpure3
namespace Go.Proofs.Ytkchcihglpcmiaa.Link
open Go.RowKit Go.Proofs.Ytkchcihglpcmiaa.Sk Go.Proofs.Ytkchcihglpcmiaa.Num Go.Proofs.Ytkchcihglpcmiaa.Wire Go.Proofs.Ytkchcihglpcmiaa.PLk

theorem ofInt_nat (m : Nat) : BitVec.ofInt 64 (m : Int) = BitVec.ofNat 64 m := by
  apply BitVec.eq_of_toInt_eq
  simp
theorem bxor (m n : Nat) (hm : m < 65536) (hn : n < 65536) : Go.bits .xor .i64 (m : Int) (n : Int) = ((m ^^^ n : Nat) : Int) := by
  have e : Go.bits .xor .i64 (m : Int) (n : Int) = IntKind.i64.wrap (((BitVec.ofInt 64 (m : Int)) ^^^ (BitVec.ofInt 64 (n : Int))).toNat : Int) := rfl
  have hx : m ^^^ n < 2 ^ 16 := Nat.xor_lt_two_pow hm hn
  rw [e, ofInt_nat, ofInt_nat, BitVec.toNat_xor, BitVec.toNat_ofNat, BitVec.toNat_ofNat, Nat.mod_eq_of_lt (by omega), Nat.mod_eq_of_lt (by omega)]
  exact i64id (by omega) (by omega)
theorem band1 (m : Nat) (hm : m < 65536) : Go.bits .and .i64 (m : Int) 1 = ((m % 2 : Nat) : Int) := by
  have e : Go.bits .and .i64 (m : Int) 1 = IntKind.i64.wrap (((BitVec.ofInt 64 (m : Int)) &&& (BitVec.ofInt 64 ((1 : Nat) : Int))).toNat : Int) := rfl
  rw [e, ofInt_nat, ofInt_nat, BitVec.toNat_and, BitVec.toNat_ofNat, BitVec.toNat_ofNat, Nat.mod_eq_of_lt (by omega), Nat.mod_eq_of_lt (by omega), Nat.and_one_is_mod]
  exact i64id (by omega) (by omega)
theorem band16 (m : Nat) (hm : m < 65536) : Go.bits .and .i64 (m : Int) 65535 = (m : Int) := by
  have e : Go.bits .and .i64 (m : Int) 65535 = IntKind.i64.wrap (((BitVec.ofInt 64 (m : Int)) &&& (BitVec.ofInt 64 ((65535 : Nat) : Int))).toNat : Int) := rfl
  have h16 : m &&& 65535 = m := by
    have := Nat.and_two_pow_sub_one_eq_mod m 16
    rw [Nat.mod_eq_of_lt (by omega)] at this
    exact this
  rw [e, ofInt_nat, ofInt_nat, BitVec.toNat_and, BitVec.toNat_ofNat, BitVec.toNat_ofNat, Nat.mod_eq_of_lt (by omega), Nat.mod_eq_of_lt (by omega), h16]
  exact i64id (by omega) (by omega)
/-- A bit's step. -/
def Tn (x : Nat) : Nat := if x % 2 = 1 then (x / 2) ^^^ 42684 else x / 2
theorem Tn_lt (x : Nat) (h : x < 65536) : Tn x < 65536 := by
  unfold Tn
  split
  · exact Nat.xor_lt_two_pow (n := 16) (by omega) (by omega)
  · omega
theorem xor_back (a p : Nat) : (a ^^^ p) ^^^ p = a := by rw [Nat.xor_assoc, Nat.xor_self, Nat.xor_zero]
theorem high (a : Nat) (h : a < 32768) : 32768 ≤ a ^^^ 42684 := by
  apply Classical.byContradiction
  intro hh
  have h1 : a ^^^ 42684 < 2 ^ 15 := by omega
  have h2 : (a ^^^ 42684) ^^^ a < 2 ^ 15 := Nat.xor_lt_two_pow h1 h
  rw [Nat.xor_comm a 42684, xor_back] at h2
  omega
theorem Tn_inj (x y : Nat) (hx : x < 65536) (hy : y < 65536) (h : Tn x = Tn y) : x = y := by
  unfold Tn at h
  by_cases h1 : x % 2 = 1
  · rw [if_pos h1] at h
    by_cases h2 : y % 2 = 1
    · rw [if_pos h2] at h
      have := congrArg (· ^^^ 42684) h
      simp only [xor_back] at this
      omega
    · rw [if_neg h2] at h
      have := high (x / 2) (by omega)
      omega
  · rw [if_neg h1] at h
    by_cases h2 : y % 2 = 1
    · rw [if_pos h2] at h
      have := high (y / 2) (by omega)
      omega
    · rw [if_neg h2] at h
      omega
def Tk : Nat → Nat → Nat
  | 0, x => x
  | k + 1, x => Tk k (Tn x)
theorem Tk_lt : ∀ k x, x < 65536 → Tk k x < 65536
  | 0, _, h => h
  | k + 1, x, h => Tk_lt k _ (Tn_lt x h)
theorem Tk_inj : ∀ k x y, x < 65536 → y < 65536 → Tk k x = Tk k y → x = y
  | 0, _, _, _, _, h => h
  | k + 1, x, y, hx, hy, h => Tn_inj x y hx hy (Tk_inj k _ _ (Tn_lt x hx) (Tn_lt y hy) h)
theorem l0_eq : ∀ (j : Nat), j ≤ 8 → ∀ x : Nat, x < 65536 → crc_Step.l0 (j + 1) 42684 (x : Int) (8 - (j : Nat) : Int) = some ((Tk j x : Nat) : Int)
  | 0, _, x, _ => by simp [crc_Step.l0, Tk]
  | j + 1, h, x, hx => by
    rw [crc_Step.l0, if_pos (by omega), band1 x hx]
    have e : wrap64 (8 - ((j + 1 : Nat) : Int) + 1) = 8 - (j : Nat) := by unfold wrap64; omega
    have e2 : (x : Int) / 2 = ((x / 2 : Nat) : Int) := by omega
    rw [e, e2]
    by_cases h1 : x % 2 = 1
    · have hb : Go.bits .xor .i64 ((x / 2 : Nat) : Int) 42684 = ((x / 2 ^^^ 42684 : Nat) : Int) := bxor (x / 2) 42684 (by omega) (by omega)
      rw [if_pos (by omega), hb]
      have := l0_eq j (by omega) (Tn x) (Tn_lt x hx)
      have ht : Tn x = x / 2 ^^^ 42684 := by unfold Tn; rw [if_pos h1]
      rw [ht] at this
      rw [this, ← ht]; rfl
    · rw [if_neg (by omega)]
      have := l0_eq j (by omega) (Tn x) (Tn_lt x hx)
      have ht : Tn x = x / 2 := by unfold Tn; rw [if_neg h1]
      rw [ht] at this
      rw [this, ← ht]; rfl
theorem step_eq (s b : Nat) (hs : s < 65536) (hb : b < 256) : stepV (s : Int) (b : Int) = ((Tk 8 (s ^^^ b) : Nat) : Int) := by
  have hx : s ^^^ b < 65536 := Nat.xor_lt_two_pow (n := 16) (by omega) (by omega)
  unfold stepV crc_Step.f
  have e1 : Go.bits .and .i64 42684 65535 = 42684 := band16 42684 (by omega)
  have e2 : wrap64 (b : Int) = b := by unfold wrap64; omega
  rw [e1, band16 s hs, e2, bxor s b hs (by omega)]
  have := l0_eq 8 (by omega) (s ^^^ b) hx
  have e3 : crc_Step.l0 9 42684 ((s ^^^ b : Nat) : Int) 0 = some ((Tk 8 (s ^^^ b) : Nat) : Int) := this
  rw [e3]; rfl
def R16 (s : Int) : Prop := 0 ≤ s ∧ s ≤ 65535
theorem step_R (s b : Int) (hs : R16 s) (hb : 0 ≤ b ∧ b ≤ 255) : R16 (stepV s b) := by
  obtain ⟨m, rfl⟩ := Int.eq_ofNat_of_zero_le hs.1
  obtain ⟨n, rfl⟩ := Int.eq_ofNat_of_zero_le hb.1
  have h1 := hs.2
  have h2 := hb.2
  rw [step_eq m n (by omega) (by omega)]
  have := Tk_lt 8 (m ^^^ n) (Nat.xor_lt_two_pow (n := 16) (by omega) (by omega))
  exact ⟨by omega, by omega⟩
theorem step_inj (s s' b b' : Int) (hs : R16 s) (hs' : R16 s') (hb : 0 ≤ b ∧ b ≤ 255) (hb' : 0 ≤ b' ∧ b' ≤ 255) (h : stepV s b = stepV s' b') : (b = b' → s = s') ∧ (s = s' → b = b') := by
  obtain ⟨m, rfl⟩ := Int.eq_ofNat_of_zero_le hs.1
  obtain ⟨n, rfl⟩ := Int.eq_ofNat_of_zero_le hb.1
  obtain ⟨m', rfl⟩ := Int.eq_ofNat_of_zero_le hs'.1
  obtain ⟨n', rfl⟩ := Int.eq_ofNat_of_zero_le hb'.1
  have h1 := hs.2
  have h2 := hb.2
  have h3 := hs'.2
  have h4 := hb'.2
  rw [step_eq m n (by omega) (by omega), step_eq m' n' (by omega) (by omega)] at h
  have hx := Tk_inj 8 _ _ (Nat.xor_lt_two_pow (n := 16) (by omega) (by omega)) (Nat.xor_lt_two_pow (n := 16) (by omega) (by omega)) (Int.ofNat.inj h)
  refine ⟨fun e => ?_, fun e => ?_⟩
  · have e' : n = n' := by omega
    subst e'
    have := congrArg (· ^^^ n) hx
    simp only [xor_back] at this
    omega
  · have e' : m = m' := by omega
    subst e'
    have this : (m ^^^ n) ^^^ m = (m ^^^ n') ^^^ m := congrArg (· ^^^ m) hx
    rw [Nat.xor_comm m n, Nat.xor_comm m n', xor_back, xor_back] at this
    omega
theorem fold_R : ∀ (xs : List Int) (s : Int), Bytes8 xs → R16 s → R16 (xs.foldl stepV s)
  | [], _, _, h => h
  | x :: xs, s, h8, h => fold_R xs _ (fun y hy => h8 y (by simp [hy])) (step_R s x h (h8 x (by simp)))
theorem fold_inj : ∀ (xs : List Int) (s s' : Int), Bytes8 xs → R16 s → R16 s' → xs.foldl stepV s = xs.foldl stepV s' → s = s'
  | [], _, _, _, _, _, h => h
  | x :: xs, s, s', h8, h, h', e => by
    have hx := h8 x (by simp)
    have := fold_inj xs _ _ (fun y hy => h8 y (by simp [hy])) (step_R s x h hx) (step_R s' x h' hx) e
    exact (step_inj s s' x x h h' hx hx this).1 rfl
theorem dnp_change (a c : List Int) (x y : Int) (ha : Bytes8 a) (hc : Bytes8 c) (hx : 0 ≤ x ∧ x ≤ 255) (hy : 0 ≤ y ∧ y ≤ 255) (h : crcB (a ++ x :: c) = crcB (a ++ y :: c)) : x = y := by
  have r0 : R16 0 := ⟨by omega, by omega⟩
  have rs := fold_R a 0 ha r0
  have r1 := fold_R c _ hc (step_R _ x rs hx)
  have r2 := fold_R c _ hc (step_R _ y rs hy)
  have hd : dnpV (a ++ x :: c) = dnpV (a ++ y :: c) := by
    unfold crcB at h
    simp only [List.cons.injEq, and_true] at h
    have rng : ∀ z : Int, R16 z → R16 (Go.bits .xor .i64 z 65535) := fun z hz => by
      obtain ⟨m, rfl⟩ := Int.eq_ofNat_of_zero_le hz.1
      have h1 := hz.2
      have : Go.bits .xor .i64 (m : Int) 65535 = ((m ^^^ 65535 : Nat) : Int) := bxor m 65535 (by omega) (by omega)
      rw [this]
      have := Nat.xor_lt_two_pow (n := 16) (x := m) (y := 65535) (by omega) (by omega)
      exact ⟨by omega, by omega⟩
    have q1 : R16 (dnpV (a ++ x :: c)) := rng _ (by rw [List.foldl_append]; exact r1)
    have q2 : R16 (dnpV (a ++ y :: c)) := rng _ (by rw [List.foldl_append]; exact r2)
    unfold R16 at q1 q2
    omega
  unfold dnpV at hd
  rw [List.foldl_append, List.foldl_append, List.foldl_cons, List.foldl_cons] at hd
  generalize a.foldl stepV 0 = s at *
  have hf : c.foldl stepV (stepV s x) = c.foldl stepV (stepV s y) := by
    obtain ⟨m, hm⟩ := Int.eq_ofNat_of_zero_le r1.1
    obtain ⟨n, hn⟩ := Int.eq_ofNat_of_zero_le r2.1
    have b1 := r1.2
    have b2 := r2.2
    rw [hm] at hd b1 ⊢
    rw [hn] at hd b2 ⊢
    have e1 : Go.bits .xor .i64 (m : Int) 65535 = ((m ^^^ 65535 : Nat) : Int) := bxor m 65535 (by omega) (by omega)
    have e2 : Go.bits .xor .i64 (n : Int) 65535 = ((n ^^^ 65535 : Nat) : Int) := bxor n 65535 (by omega) (by omega)
    rw [e1, e2] at hd
    have := congrArg (· ^^^ 65535) (Int.ofNat.inj hd)
    simp only [xor_back] at this
    omega
  have := fold_inj c _ _ hc (step_R s x rs hx) (step_R s y rs hy) hf
  exact (step_inj s s x y rs rs hx hy this).2 rfl
theorem set_split (xs : List Int) (i : Nat) (hi : i < xs.length) (y : Int) : xs.set i y = xs.take i ++ y :: xs.drop (i + 1) := by
  rw [List.set_eq_take_append_cons_drop, if_pos hi]
theorem self_split (xs : List Int) (i : Nat) (hi : i < xs.length) : xs = xs.take i ++ xs[i] :: xs.drop (i + 1) := by
  rw [← List.drop_eq_getElem_cons hi, List.take_append_drop]
theorem crc_flip (xs : List Int) (i : Nat) (hi : i < xs.length) (y : Int) (h8 : Bytes8 xs) (hy : 0 ≤ y ∧ y ≤ 255) (h : crcB (xs.set i y) = crcB xs) : y = xs[i] := by
  rw [set_split xs i hi y] at h
  have e : crcB xs = crcB (xs.take i ++ xs[i] :: xs.drop (i + 1)) := by rw [← self_split xs i hi]
  rw [e] at h
  exact dnp_change _ _ _ _ (h8.take i) (h8.drop (i + 1)) hy (h8 _ (List.getElem_mem hi)) h
/-- A byte changed: the sum doesn't fit. -/
theorem fits_flip (xs : List Int) (i : Nat) (hi : i < xs.length) (y : Int) (h8 : Bytes8 xs) (hy : 0 ≤ y ∧ y ≤ 255) (h2 : 2 ≤ xs.length) (h : fitsV xs = true) (h' : fitsV (xs.set i y) = true) : y = xs[i] := by
  have e1 := fits_eq _ h
  have e2 := fits_eq _ h'
  rw [List.length_set] at e2
  have hl : (xs.take (xs.length - 2)).length = xs.length - 2 := by rw [List.length_take]; omega
  have hl' : ((xs.set i y).take (xs.length - 2)).length = xs.length - 2 := by rw [List.length_take, List.length_set]; omega
  have d1 : xs.drop (xs.length - 2) = crcB (xs.take (xs.length - 2)) := by
    have := congrArg (List.drop (xs.length - 2)) e1.symm
    rw [List.drop_left' hl] at this
    exact this
  have d2 : (xs.set i y).drop (xs.length - 2) = crcB ((xs.set i y).take (xs.length - 2)) := by
    have := congrArg (List.drop (xs.length - 2)) e2.symm
    rw [List.drop_left' hl'] at this
    exact this
  by_cases hin : i < xs.length - 2
  · have ht : (xs.set i y).take (xs.length - 2) = (xs.take (xs.length - 2)).set i y := List.take_set
    have hd : (xs.set i y).drop (xs.length - 2) = xs.drop (xs.length - 2) := by
      rw [List.drop_set, if_pos hin]
    rw [ht, hd, d1] at d2
    have := crc_flip (xs.take (xs.length - 2)) i (by omega) y (h8.take _) hy d2.symm
    rw [this, List.getElem_take]
  · have ht : (xs.set i y).take (xs.length - 2) = xs.take (xs.length - 2) := by
      rw [List.take_set_of_le (by omega)]
    rw [ht, ← d1] at d2
    have e : xs.set i y = xs := by
      rw [← List.take_append_drop (xs.length - 2) (xs.set i y), ht, d2, List.take_append_drop]
    have := congrArg (fun l => l[i]?) e
    simp only [List.getElem?_set_self hi, List.getElem?_eq_getElem hi] at this
    exact Option.some.inj this
theorem blocks_data : ∀ (n : Nat) (ds : List Int), ds.length ≤ n → Bytes8 (blocksV n ds []) → Bytes8 ds
  | 0, ds, h, _ => by
    have : ds = [] := List.eq_nil_of_length_eq_zero (by omega)
    subst this
    intro x hx
    simp at hx
  | n + 1, ds, h, hb => by
    by_cases hn : ds = []
    · subst hn; intro x hx; simp at hx
    · rw [blocks_cons n ds hn] at hb
      have i1 := blocks_data n (ds.drop 16) (by rw [List.length_drop]; have : 1 ≤ ds.length := (by cases ds with | nil => exact absurd rfl hn | cons x xs => simp); omega) (fun x hx => hb x (List.mem_append_right _ hx))
      intro x hx
      rw [← List.take_append_drop 16 ds] at hx
      rcases List.mem_append.1 hx with hx | hx
      · exact hb x (List.mem_append_left _ (List.mem_append_left _ hx))
      · exact i1 x hx
theorem blocks_flip : ∀ (n : Nat) (ds ds' : List Int), ds.length ≤ n → ds'.length = ds.length → Bytes8 ds → Bytes8 ds' → ∀ (j : Nat) (y : Int) (hj : j < (blocksV n ds []).length), blocksV n ds' [] = (blocksV n ds []).set j y → y = (blocksV n ds [])[j]
  | 0, ds, ds', h, hl, _, _, j, y, hj, he => by
    have : ds = [] := List.eq_nil_of_length_eq_zero (by omega)
    subst this
    simp [blocksV] at hj
  | n + 1, ds, ds', h, hl, h8, h8', j, y, hj, he => by
    by_cases hn : ds = []
    · subst hn
      simp [blocksV] at hj
    · have hp : 1 ≤ ds.length := by cases ds with | nil => exact absurd rfl hn | cons x xs => simp
      have hn' : ds' ≠ [] := by rintro rfl; simp at hl; omega
      have hy8 : 0 ≤ y ∧ y ≤ 255 := by
        have hb : Bytes8 (blocksV (n + 1) ds' []) := blocks_8 _ _ _ h8' (fun _ h => by simp at h)
        rw [he] at hb
        exact hb y (List.mem_of_getElem? (by rw [List.getElem?_set_self hj]))
      have hb8 : Bytes8 (blocksV (n + 1) ds []) := blocks_8 _ _ _ h8 (fun _ h => by simp at h)
      have e1 := blocks_cons n ds hn
      have e2 := blocks_cons n ds' hn'
      have l1 : (ds.take 16 ++ crcB (ds.take 16)).length = min 16 ds.length + 2 := by rw [List.length_append, crcB_len, List.length_take]
      have l2 : (ds'.take 16 ++ crcB (ds'.take 16)).length = min 16 ds.length + 2 := by rw [List.length_append, crcB_len, List.length_take, hl]
      have f1 := fits_summed (ds.take 16)
      have f2 := fits_summed (ds'.take 16)
      generalize ds.take 16 ++ crcB (ds.take 16) = c at *
      generalize ds'.take 16 ++ crcB (ds'.take 16) = c' at *
      simp only [e1] at he hj hb8 ⊢
      rw [e2] at he
      by_cases hin : j < c.length
      · rw [List.set_append_left _ _ hin] at he
        have hc : c' = c.set j y := List.append_inj_left he (by rw [List.length_set]; omega)
        rw [List.getElem_append_left hin]
        rw [hc] at f2
        exact fits_flip c j hin y (fun x hx => hb8 x (List.mem_append_left _ hx)) hy8 (by omega) f1 f2
      · rw [List.set_append_right _ _ (by omega)] at he
        have hc : blocksV n (ds'.drop 16) [] = (blocksV n (ds.drop 16) []).set (j - c.length) y := List.append_inj_right he (by omega)
        rw [List.getElem_append_right (by omega)]
        rw [List.length_append] at hj
        exact blocks_flip n (ds.drop 16) (ds'.drop 16) (by rw [List.length_drop]; omega) (by rw [List.length_drop, List.length_drop]; omega) (h8.drop 16) (h8'.drop 16) (j - c.length) y (by omega) hc
/-- A frame's bytes with one changed are none. -/
theorem dec_flip (f : Fr) (hm : f.may) (hl : f.data.length ≤ 250) (hd : Bytes8 f.data) (i : Nat) (hi : i < (encB f).length) (y : Int) (hy : 0 ≤ y ∧ y ≤ 255) (hne : y ≠ (encB f)[i]) : decodeV ((encB f).set i y) = none := by
  cases hdec : decodeV ((encB f).set i y) with
  | none => rfl
  | some g =>
    exfalso
    have h8 := enc_8 f hm hl hd
    have h8' : Bytes8 ((encB f).set i y) := fun x hx => by
      rcases List.mem_or_eq_of_mem_set hx with h | h
      · exact h8 x h
      · subst h; exact hy
    have hg := enc_dec _ h8' g hdec
    obtain ⟨gm, gl, glen⟩ := dec_some _ h8' g hdec
    rw [List.length_set, enc_len] at glen
    have hlen : g.data.length = f.data.length := by unfold sizeV at glen; omega
    have t1 := enc_take f
    have t2 := enc_take g
    rw [hg] at t2
    have f1 : fitsV ((encB f).take 10) = true := by rw [t1]; exact fits_summed _
    have f2 : fitsV (((encB f).set i y).take 10) = true := by rw [t2]; exact fits_summed _
    have h10 : 10 ≤ (encB f).length := by rw [enc_len]; unfold sizeV; omega
    by_cases hin : i < 10
    · rw [List.take_set] at f2
      have := fits_flip ((encB f).take 10) i (by rw [List.length_take]; omega) y (h8.take 10) hy (by rw [List.length_take]; omega) f1 f2
      rw [List.getElem_take] at this
      exact hne this
    · have d1 := enc_drop f
      have d2 := enc_drop g
      rw [hg, List.drop_set, if_neg (by omega), hlen, d1] at d2
      have hg8 : Bytes8 g.data := by
        intro x hx
        have hb : Bytes8 (blocksV g.data.length g.data []) := by rw [← enc_drop, hg]; exact h8'.drop 10
        exact blocks_data g.data.length g.data (Nat.le_refl _) hb x hx
      have hj : i - 10 < (blocksV f.data.length f.data []).length := by rw [← d1, List.length_drop]; omega
      have := blocks_flip f.data.length f.data g.data (Nat.le_refl _) hlen hd hg8 (i - 10) y hj d2.symm
      apply hne
      rw [this]
      have e3 : (blocksV f.data.length f.data [])[i - 10] = ((encB f).drop 10)[i - 10]'(by rw [List.length_drop]; omega) := by
        have := congrArg (fun l => l[i - 10]?) d1
        simp only [List.getElem?_eq_getElem hj] at this
        rw [List.getElem?_eq_getElem (by rw [List.length_drop]; omega)] at this
        exact (Option.some.inj this).symm
      rw [e3, List.getElem_drop]
      congr 1
      omega
end Go.Proofs.Ytkchcihglpcmiaa.Link
