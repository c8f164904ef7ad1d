/- Chapter 18: Get's contract, for numbers that Put has made. -/
import Derived.Test.YtpchlljelbpanaaVget
namespace Go.Proofs.Ytpchlljelbpanaa.Vari
open Go.RowKit Go.Proofs.Ytpchlljelbpanaa.Sk Go.Proofs.Ytpchlljelbpanaa.Num Go.Proofs.Ytpchlljelbpanaa.Wire Go.Proofs.Ytpchlljelbpanaa.PVariTables
open Go.Proofs.YtpchlljelbpanaaW.PrintWords Go.Proofs.YtpchlljelbpanaaW.PrintLast Go.Proofs.YtpchlljelbpanaaW.PrintMore

/-- What Get answers where the bytes are as many as they should be. -/
def getV (g v : Int) (l : List Int) : Option (Int × Int × Int × Bool) :=
  if (∀ x, x ∈ l → 0 ≤ x ∧ x ≤ 255) then
    if g = 1 ∧ v = 2 ∨ g = 2 ∧ v = 1 then (if l.length = 1 then some ((l.getD 0 0) / 128, Go.bits .and .i64 (l.getD 0 0) 7, 0, true) else none)
    else if g = 10 ∧ v = 2 then (if l.length = 1 then some ((l.getD 0 0) / 128, Go.bits .and .i64 (l.getD 0 0) 7, 0, true) else none)
    else if g = 2 ∧ v = 2 then (if l.length = 7 then some ((l.getD 0 0) / 128, Go.bits .and .i64 (l.getD 0 0) 7, le ((l.drop 1).take 6), true) else none)
    else if g = 3 ∧ v = 2 ∨ g = 4 ∧ v = 1 then (if l.length = 1 then some ((l.getD 0 0) / 64, Go.bits .and .i64 (l.getD 0 0) 7, 0, true) else none)
    else if g = 4 ∧ v = 2 then (if l.length = 7 then some ((l.getD 0 0) / 64, Go.bits .and .i64 (l.getD 0 0) 7, le ((l.drop 1).take 6), true) else none)
    else if g = 20 ∧ v = 1 ∨ g = 21 ∧ v = 1 ∨ g = 22 ∧ v = 1 ∨ g = 30 ∧ v = 1 ∨ g = 40 ∧ v = 1 ∨ g = 32 ∧ v = 1 then (if l.length = 5 then some (sI 4 (le ((l.drop 1).take 4)), Go.bits .and .i64 (l.getD 0 0) 7, 0, true) else none)
    else if g = 22 ∧ v = 5 ∨ g = 32 ∧ v = 3 then (if l.length = 11 then some (sI 4 (le ((l.drop 1).take 4)), Go.bits .and .i64 (l.getD 0 0) 7, le ((l.drop 5).take 6), true) else none)
    else if g = 30 ∧ v = 2 ∨ g = 40 ∧ v = 2 ∨ g = 32 ∧ v = 2 then (if l.length = 3 then some (sI 2 (le ((l.drop 1).take 2)), Go.bits .and .i64 (l.getD 0 0) 7, 0, true) else none)
    else none
  else none
theorem rU_ok (b : List Int) (n : Nat) (h : 1 ≤ n ∧ n ≤ 6) (hl : n ≤ b.length) : rU b 0 n = (le (b.take n), Er.nil, (n : Int)) := by
  unfold rU
  rw [if_neg (by omega), if_neg (by omega), Int.zero_add]
  rfl
theorem rd_addr {w : World} {c : Col} {S : List Nat} {A : Option Addr} {n cap : Nat} {xs : List Int} (h : Rd u8 w c S (.slice A n cap) xs) (hp : 0 < xs.length) : ∃ q o, A = some ⟨q, o, none⟩ := by
  obtain ⟨A', cap', e, _, _, h3⟩ := h.form
  injection e with e1 _ _
  obtain ⟨q, o, e, _⟩ := h3 hp
  exact ⟨q, o, e1.trans e⟩
theorem le_bd (xs : List Int) (hr : ∀ x, x ∈ xs → 0 ≤ x ∧ x ≤ 255) (m n : Nat) (hm : m + n ≤ xs.length) : 0 ≤ le ((xs.drop m).take n) ∧ le ((xs.drop m).take n) < 256 ^ n := by
  have := le_range ((xs.drop m).take n) fun x hx => hr x (List.mem_of_mem_drop (List.mem_of_mem_take hx))
  rw [List.length_take, List.length_drop, show min n (xs.length - m) = n by omega] at this
  exact this
set_option maxRecDepth 100000 in
theorem get_calls (g v : Int) (A : Option Addr) (cap : Nat) (l : List Int) (r1 r2 r3 : Int) (r4 : Bool) (w : World) (hr : Kd.C (Kd.int .u8) w A l.length l) (hc : l.length ≤ cap) (h : getV g v l = some (r1, r2, r3, r4)) :
    Calls Try.prog 18 #[.int .i64 g, .int .i64 v, .slice A l.length cap] w fun e w' => e = .returned (.tuple #[.agg #[.int .i64 r1, .int .i64 r2, .int .i64 r3], .bool r4]) ∧ Below w.heap.size w w' := by
  unfold getV at h
  by_cases hb : ∀ x, x ∈ l → 0 ≤ x ∧ x ≤ 255
  case neg => rw [if_neg hb] at h; cases h
  rw [if_pos hb] at h
  have hx := rd_of_c hr hc hb
  have hd : 0 < l.length → l[0]? = some (l.getD 0 0) ∧ 0 ≤ l.getD 0 0 ∧ l.getD 0 0 ≤ 255 := by
    intro hp
    have e : l[0]? = some (l.getD 0 0) := by rw [List.getD_eq_getElem?_getD, List.getElem?_eq_getElem hp]; rfl
    exact ⟨e, hb _ (List.mem_of_getElem? e)⟩
  by_cases hg : g = 1 ∧ v = 2 ∨ g = 2 ∧ v = 1
  · rw [if_pos hg] at h
    by_cases hl : l.length = 1
    case neg => rw [if_neg hl] at h; cases h
    rw [if_pos hl] at h
    simp only [Option.some.injEq, Prod.mk.injEq] at h
    obtain ⟨rfl, rfl, rfl, rfl⟩ := h
    obtain ⟨q, o, rfl⟩ := rd_addr hx (by omega)
    obtain ⟨h0, r0⟩ := hd (by omega)
    rw [hl] at hx ⊢
    rcases hg with ⟨rfl, rfl⟩ | ⟨rfl, rfl⟩
    · exact get_a1f _ _ l q o cap w _ _ hx hl _ h0 r0 (by kernel_rfl) (by kernel_rfl) (by kernel_rfl)
    · exact get_a1f _ _ l q o cap w _ _ hx hl _ h0 r0 (by kernel_rfl) (by kernel_rfl) (by kernel_rfl)
  rw [if_neg hg] at h
  clear hg
  by_cases hg : g = 10 ∧ v = 2
  · rw [if_pos hg] at h
    by_cases hl : l.length = 1
    case neg => rw [if_neg hl] at h; cases h
    rw [if_pos hl] at h
    simp only [Option.some.injEq, Prod.mk.injEq] at h
    obtain ⟨rfl, rfl, rfl, rfl⟩ := h
    obtain ⟨q, o, rfl⟩ := rd_addr hx (by omega)
    obtain ⟨h0, r0⟩ := hd (by omega)
    rw [hl] at hx ⊢
    obtain ⟨rfl, rfl⟩ := hg
    exact get_a6f _ _ l q o cap w _ _ hx hl _ h0 r0 (by kernel_rfl) (by kernel_rfl) (by kernel_rfl)
  rw [if_neg hg] at h
  clear hg
  by_cases hg : g = 2 ∧ v = 2
  · rw [if_pos hg] at h
    by_cases hl : l.length = 7
    case neg => rw [if_neg hl] at h; cases h
    rw [if_pos hl] at h
    simp only [Option.some.injEq, Prod.mk.injEq] at h
    obtain ⟨rfl, rfl, rfl, rfl⟩ := h
    obtain ⟨q, o, rfl⟩ := rd_addr hx (by omega)
    obtain ⟨h0, r0⟩ := hd (by omega)
    rw [hl] at hx ⊢
    obtain ⟨rfl, rfl⟩ := hg
    exact get_a1t _ _ l q o cap w _ _ hx hl _ h0 r0 (by kernel_rfl) (by kernel_rfl) (by kernel_rfl) _ (rU_ok (l.drop 1) 6 (by decide) (by rw [List.length_drop]; omega))
  rw [if_neg hg] at h
  clear hg
  by_cases hg : g = 3 ∧ v = 2 ∨ g = 4 ∧ v = 1
  · rw [if_pos hg] at h
    by_cases hl : l.length = 1
    case neg => rw [if_neg hl] at h; cases h
    rw [if_pos hl] at h
    simp only [Option.some.injEq, Prod.mk.injEq] at h
    obtain ⟨rfl, rfl, rfl, rfl⟩ := h
    obtain ⟨q, o, rfl⟩ := rd_addr hx (by omega)
    obtain ⟨h0, r0⟩ := hd (by omega)
    rw [hl] at hx ⊢
    rcases hg with ⟨rfl, rfl⟩ | ⟨rfl, rfl⟩
    · exact get_b2f _ _ l q o cap w _ _ hx hl _ h0 r0 (by kernel_rfl) (by kernel_rfl) (by kernel_rfl)
    · exact get_b2f _ _ l q o cap w _ _ hx hl _ h0 r0 (by kernel_rfl) (by kernel_rfl) (by kernel_rfl)
  rw [if_neg hg] at h
  clear hg
  by_cases hg : g = 4 ∧ v = 2
  · rw [if_pos hg] at h
    by_cases hl : l.length = 7
    case neg => rw [if_neg hl] at h; cases h
    rw [if_pos hl] at h
    simp only [Option.some.injEq, Prod.mk.injEq] at h
    obtain ⟨rfl, rfl, rfl, rfl⟩ := h
    obtain ⟨q, o, rfl⟩ := rd_addr hx (by omega)
    obtain ⟨h0, r0⟩ := hd (by omega)
    rw [hl] at hx ⊢
    obtain ⟨rfl, rfl⟩ := hg
    exact get_b2t _ _ l q o cap w _ _ hx hl _ h0 r0 (by kernel_rfl) (by kernel_rfl) (by kernel_rfl) _ (rU_ok (l.drop 1) 6 (by decide) (by rw [List.length_drop]; omega))
  rw [if_neg hg] at h
  clear hg
  by_cases hg : g = 20 ∧ v = 1 ∨ g = 21 ∧ v = 1 ∨ g = 22 ∧ v = 1 ∨ g = 30 ∧ v = 1 ∨ g = 40 ∧ v = 1 ∨ g = 32 ∧ v = 1
  · rw [if_pos hg] at h
    by_cases hl : l.length = 5
    case neg => rw [if_neg hl] at h; cases h
    rw [if_pos hl] at h
    simp only [Option.some.injEq, Prod.mk.injEq] at h
    obtain ⟨rfl, rfl, rfl, rfl⟩ := h
    obtain ⟨q, o, rfl⟩ := rd_addr hx (by omega)
    obtain ⟨h0, r0⟩ := hd (by omega)
    rw [hl] at hx ⊢
    rcases hg with ⟨rfl, rfl⟩ | ⟨rfl, rfl⟩ | ⟨rfl, rfl⟩ | ⟨rfl, rfl⟩ | ⟨rfl, rfl⟩ | ⟨rfl, rfl⟩
    · exact get_c4f _ _ l q o cap w _ _ hx hl _ h0 r0 (by kernel_rfl) (by kernel_rfl) 4 (by kernel_rfl) (by decide) (by decide) (by decide) _ (rU_ok (l.drop 1) 4 (by decide) (by rw [List.length_drop]; omega)) (le_bd l hb 1 4 (by omega))
    · exact get_c4f _ _ l q o cap w _ _ hx hl _ h0 r0 (by kernel_rfl) (by kernel_rfl) 5 (by kernel_rfl) (by decide) (by decide) (by decide) _ (rU_ok (l.drop 1) 4 (by decide) (by rw [List.length_drop]; omega)) (le_bd l hb 1 4 (by omega))
    · exact get_c4f _ _ l q o cap w _ _ hx hl _ h0 r0 (by kernel_rfl) (by kernel_rfl) 4 (by kernel_rfl) (by decide) (by decide) (by decide) _ (rU_ok (l.drop 1) 4 (by decide) (by rw [List.length_drop]; omega)) (le_bd l hb 1 4 (by omega))
    · exact get_c4f _ _ l q o cap w _ _ hx hl _ h0 r0 (by kernel_rfl) (by kernel_rfl) 3 (by kernel_rfl) (by decide) (by decide) (by decide) _ (rU_ok (l.drop 1) 4 (by decide) (by rw [List.length_drop]; omega)) (le_bd l hb 1 4 (by omega))
    · exact get_c4f _ _ l q o cap w _ _ hx hl _ h0 r0 (by kernel_rfl) (by kernel_rfl) 7 (by kernel_rfl) (by decide) (by decide) (by decide) _ (rU_ok (l.drop 1) 4 (by decide) (by rw [List.length_drop]; omega)) (le_bd l hb 1 4 (by omega))
    · exact get_c4f _ _ l q o cap w _ _ hx hl _ h0 r0 (by kernel_rfl) (by kernel_rfl) 3 (by kernel_rfl) (by decide) (by decide) (by decide) _ (rU_ok (l.drop 1) 4 (by decide) (by rw [List.length_drop]; omega)) (le_bd l hb 1 4 (by omega))
  rw [if_neg hg] at h
  clear hg
  by_cases hg : g = 22 ∧ v = 5 ∨ g = 32 ∧ v = 3
  · rw [if_pos hg] at h
    by_cases hl : l.length = 11
    case neg => rw [if_neg hl] at h; cases h
    rw [if_pos hl] at h
    simp only [Option.some.injEq, Prod.mk.injEq] at h
    obtain ⟨rfl, rfl, rfl, rfl⟩ := h
    obtain ⟨q, o, rfl⟩ := rd_addr hx (by omega)
    obtain ⟨h0, r0⟩ := hd (by omega)
    rw [hl] at hx ⊢
    rcases hg with ⟨rfl, rfl⟩ | ⟨rfl, rfl⟩
    · exact get_c4t _ _ l q o cap w _ _ hx hl _ h0 r0 (by kernel_rfl) (by kernel_rfl) 4 (by kernel_rfl) (by decide) (by decide) (by decide) _ (rU_ok (l.drop 1) 4 (by decide) (by rw [List.length_drop]; omega)) (le_bd l hb 1 4 (by omega)) _ (rU_ok (l.drop 5) 6 (by decide) (by rw [List.length_drop]; omega))
    · exact get_c4t _ _ l q o cap w _ _ hx hl _ h0 r0 (by kernel_rfl) (by kernel_rfl) 3 (by kernel_rfl) (by decide) (by decide) (by decide) _ (rU_ok (l.drop 1) 4 (by decide) (by rw [List.length_drop]; omega)) (le_bd l hb 1 4 (by omega)) _ (rU_ok (l.drop 5) 6 (by decide) (by rw [List.length_drop]; omega))
  rw [if_neg hg] at h
  clear hg
  by_cases hg : g = 30 ∧ v = 2 ∨ g = 40 ∧ v = 2 ∨ g = 32 ∧ v = 2
  · rw [if_pos hg] at h
    by_cases hl : l.length = 3
    case neg => rw [if_neg hl] at h; cases h
    rw [if_pos hl] at h
    simp only [Option.some.injEq, Prod.mk.injEq] at h
    obtain ⟨rfl, rfl, rfl, rfl⟩ := h
    obtain ⟨q, o, rfl⟩ := rd_addr hx (by omega)
    obtain ⟨h0, r0⟩ := hd (by omega)
    rw [hl] at hx ⊢
    rcases hg with ⟨rfl, rfl⟩ | ⟨rfl, rfl⟩ | ⟨rfl, rfl⟩
    · exact get_c2f _ _ l q o cap w _ _ hx hl _ h0 r0 (by kernel_rfl) (by kernel_rfl) 3 (by kernel_rfl) (by decide) (by decide) (by decide) _ (rU_ok (l.drop 1) 2 (by decide) (by rw [List.length_drop]; omega)) (le_bd l hb 1 2 (by omega))
    · exact get_c2f _ _ l q o cap w _ _ hx hl _ h0 r0 (by kernel_rfl) (by kernel_rfl) 7 (by kernel_rfl) (by decide) (by decide) (by decide) _ (rU_ok (l.drop 1) 2 (by decide) (by rw [List.length_drop]; omega)) (le_bd l hb 1 2 (by omega))
    · exact get_c2f _ _ l q o cap w _ _ hx hl _ h0 r0 (by kernel_rfl) (by kernel_rfl) 3 (by kernel_rfl) (by decide) (by decide) (by decide) _ (rU_ok (l.drop 1) 2 (by decide) (by rw [List.length_drop]; omega)) (le_bd l hb 1 2 (by omega))
  rw [if_neg hg] at h
  clear hg
  cases h
end Go.Proofs.Ytpchlljelbpanaa.Vari
