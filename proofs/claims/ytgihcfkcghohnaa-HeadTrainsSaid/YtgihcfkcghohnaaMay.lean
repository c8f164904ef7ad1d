/- Contracts of head.Width and head.May, over this seat's translation. -/
import Derived.Test.YtgihcfkcghohnaaBase
namespace Go.Proofs.Ytgihcfkcghohnaa.Head
open Go.RowKit Go.Proofs.Ytgihcfkcghohnaa.Sk Go.Proofs.Ytgihcfkcghohnaa.Num Go.Proofs.Ytgihcfkcghohnaa.Wire

/-- A header. -/
structure Hdr where
  g : Int
  v : Int
  q : Int
  f : Int
  l : Int
  c : Int
/-- As Go has it by value. -/
def Hdr.val (h : Hdr) : Value := .agg #[.int .i64 h.g, .int .i64 h.v, .int .i64 h.q, .int .i64 h.f, .int .i64 h.l, .int .i64 h.c]
/-- What Width tells. -/
def widthV (q : Int) : Int × Int × Bool :=
  if q = 6 then (0, 0, true) else if q = 0 then (1, 0, true) else if q = 7 then (1, 0, true) else if q = 1 then (2, 0, true) else if q = 8 then (2, 0, true) else if q = 23 then (1, 1, true) else if q = 40 then (2, 2, true) else (0, 0, false)
theorem width_calls (q : Int) (w : World) :
    Calls Try.prog 14 #[.int .i64 q] w fun e w' => e = .returned (.tuple #[.int .i64 (widthV q).1, .int .i64 (widthV q).2.1, .bool (widthV q).2.2]) ∧ w = w' := by
  have one : ∀ k : Int, k = 6 ∨ k = 0 ∨ k = 7 ∨ k = 1 ∨ k = 8 ∨ k = 23 ∨ k = 40 → Calls Try.prog 14 #[.int .i64 k] w fun e w' => e = .returned (.tuple #[.int .i64 (widthV k).1, .int .i64 (widthV k).2.1, .bool (widthV k).2.2]) ∧ w = w' := by
    intro k hk
    rcases hk with rfl | rfl | rfl | rfl | rfl | rfl | rfl
    all_goals
      go_enter Try.func14, Try.ntmps14
      go_wp2
      go_ret3
      exact ⟨rfl, rfl⟩
  by_cases h : q = 6 ∨ q = 0 ∨ q = 7 ∨ q = 1 ∨ q = 8 ∨ q = 23 ∨ q = 40
  · exact one q h
  · have e0 : widthV q = (0, 0, false) := by
      unfold widthV
      simp only [not_or] at h
      obtain ⟨h1, h2, h3, h4, h5, h6, h7⟩ := h
      rw [if_neg h1, if_neg h2, if_neg h3, if_neg h4, if_neg h5, if_neg h6, if_neg h7]
    rw [e0]
    simp only [not_or] at h
    obtain ⟨h1, h2, h3, h4, h5, h6, h7⟩ := h
    replace h1 := beq_eq_false_iff_ne.2 h1
    replace h2 := beq_eq_false_iff_ne.2 h2
    replace h3 := beq_eq_false_iff_ne.2 h3
    replace h4 := beq_eq_false_iff_ne.2 h4
    replace h5 := beq_eq_false_iff_ne.2 h5
    replace h6 := beq_eq_false_iff_ne.2 h6
    replace h7 := beq_eq_false_iff_ne.2 h7
    go_enter Try.func14, Try.ntmps14
    go_wp2
    go_ret3
    exact ⟨rfl, rfl⟩
/-- The greatest number of a qualifier. -/
def highV (q : Int) : Int := 2 ^ (8 * (widthV q).1).toNat - 1
/-- May it be a header? -/
def Hdr.may (h : Hdr) : Prop :=
  (widthV h.q).2.2 = true ∧ 0 ≤ h.g ∧ h.g ≤ 255 ∧ 0 ≤ h.v ∧ h.v ≤ 255 ∧
    if h.q = 0 ∨ h.q = 1 then 0 ≤ h.f ∧ h.f ≤ h.l ∧ h.l ≤ highV h.q ∧ h.c = h.l - h.f + 1
    else h.f = 0 ∧ h.l = 0 ∧ if h.q = 6 then h.c = 0 else 1 ≤ h.c ∧ h.c ≤ highV h.q
instance (h : Hdr) : Decidable h.may := by unfold Hdr.may; exact inferInstance
/-- What is behind a call of May. -/
def MayPost (h : Hdr) (w : World) (c : Col) (e : Ending) (w' : World) : Prop := ∃ c', e = .returned (.bool (decide h.may)) ∧ Ext [] w c w' c'
set_option maxHeartbeats 1600000 in
theorem may_calls (h : Hdr) (w : World) (c : Col) (κ : Nat) :
    Calls Try.prog 9 #[h.val] w (MayPost h w c) := by
  obtain ⟨g, v, q, f, l, n⟩ := h
  unfold Hdr.val
  have one : ∀ k m p : Int, widthV k = (m, p, true) → (k = 6 ∧ m = 0) ∨ (k = 0 ∧ m = 1) ∨ (k = 7 ∧ m = 1) ∨ (k = 1 ∧ m = 2) ∨ (k = 8 ∧ m = 2) ∨ (k = 23 ∧ m = 1) ∨ (k = 40 ∧ m = 2) → q = k → Calls Try.prog 9 #[.agg #[.int .i64 g, .int .i64 v, .int .i64 q, .int .i64 f, .int .i64 l, .int .i64 n]] w (MayPost ⟨g, v, q, f, l, n⟩ w c) := by
    intro k m p hp hk hq
    have hwc : ∀ w, Calls Try.prog 14 #[.int .i64 k] w fun e w' => e = .returned (.tuple #[.int .i64 m, .int .i64 p, .bool true]) ∧ w = w' := fun w => by have := width_calls k w; rw [hp] at this; exact this
    have HW := Lib.hid hwc
    clear hwc hp
    rcases hk with ⟨rfl, rfl⟩ | ⟨rfl, rfl⟩ | ⟨rfl, rfl⟩ | ⟨rfl, rfl⟩ | ⟨rfl, rfl⟩ | ⟨rfl, rfl⟩ | ⟨rfl, rfl⟩
    all_goals
      subst hq
      go_enter Try.func9, Try.ntmps9
      go_wp2_with (first | (go_at_call 14; refine (HW.out _).mono ?_; rintro e w' ⟨rfl, rfl⟩) | go_in)
      all_goals
        go_ret
        refine ⟨_, congrArg (fun b => Ending.returned (Value.bool b)) ?_, Ext.alloc [] w c _ κ⟩
        rw [Bool.eq_iff_iff]
        simp [Hdr.may, widthV, highV]
        try simp at *
        try omega
  have bad : (widthV q).2.2 = false → Calls Try.prog 9 #[.agg #[.int .i64 g, .int .i64 v, .int .i64 q, .int .i64 f, .int .i64 l, .int .i64 n]] w (MayPost ⟨g, v, q, f, l, n⟩ w c) := by
    intro hq
    have e1 : decide (Hdr.may ⟨g, v, q, f, l, n⟩) = false := decide_eq_false (by intro h; have := h.1; simp only at this; rw [hq] at this; cases this)
    go_enter Try.func9, Try.ntmps9
    go_wp2_with (go_at_call 14; refine (width_calls q _).mono ?_; rintro e w' ⟨rfl, rfl⟩)
    go_ret
    exact ⟨_, by rw [e1]; rfl, Ext.alloc [] w c _ κ⟩
  by_cases h : q = 6 ∨ q = 0 ∨ q = 7 ∨ q = 1 ∨ q = 8 ∨ q = 23 ∨ q = 40
  · rcases h with h | h | h | h | h | h | h
    all_goals (subst h; exact one _ _ _ rfl (by simp) rfl)
  · refine bad ?_
    unfold widthV
    simp only [not_or] at h
    obtain ⟨h1, h2, h3, h4, h5, h6, h7⟩ := h
    rw [if_neg h1, if_neg h2, if_neg h3, if_neg h4, if_neg h5, if_neg h6, if_neg h7]
end Go.Proofs.Ytgihcfkcghohnaa.Head
