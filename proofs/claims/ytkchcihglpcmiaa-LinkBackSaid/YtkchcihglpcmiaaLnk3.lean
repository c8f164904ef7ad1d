/- Chapter 14: a frame's data. -/
import Derived.Test.YtkchcihglpcmiaaLnk2
namespace Go.Proofs.Ytkchcihglpcmiaa.Link
open Go.RowKit Go.Proofs.Ytkchcihglpcmiaa.Sk Go.Proofs.Ytkchcihglpcmiaa.Num Go.Proofs.Ytkchcihglpcmiaa.Wire Go.Proofs.Ytkchcihglpcmiaa.PLk
open Go.Proofs.YtkchcihglpcmiaaW.PrintWords Go.Proofs.YtkchcihglpcmiaaW.PrintLast Go.Proofs.YtkchcihglpcmiaaW.PrintMore
attribute [local go_sem] max2i min2i max2v min2v

theorem data_nil (f a : Nat) (out : List Int) : dataV f a [] out = (out, -1) := by
  cases f <;> rfl
theorem data_step (f a : Nat) (zs out : List Int) (m : Nat) (ys : List Int) (hm : 1 ≤ m) (hmm : m = min 18 zs.length) (hy : zs.take m = ys) (hf : zs.length ≤ f) :
    ∃ f', f = f' + 1 ∧ (fitsV ys = false → dataV f a zs out = ([], (a : Int))) ∧ (fitsV ys = true → ∀ n, m = n + 2 → dataV f a zs out = dataV f' (a + 18) (zs.drop 18) (out ++ ys.take n)) := by
  obtain ⟨f', rfl⟩ : ∃ f', f = f' + 1 := ⟨f - 1, by omega⟩
  have h18 : zs.take 18 = ys := by
    rw [← hy]
    rcases Nat.lt_or_ge zs.length 18 with h | h
    · rw [List.take_of_length_le (by omega), List.take_of_length_le (by omega)]
    · rw [show m = 18 by omega]
  have hne : zs ≠ [] := by rintro rfl; simp at hmm; omega
  have hyl : ys.length = m := by rw [← hy, List.length_take]; omega
  refine ⟨f', rfl, fun hb => ?_, fun hb n hn => ?_⟩
  · rw [dataV, if_neg hne, h18, if_neg (by rw [hb]; decide)]
  · rw [dataV, if_neg hne, h18, if_pos hb, hyl, show m - 2 = n by omega]
def DataP (xs : List Int) (w : World) (c : Col) (e : Ending) (w' : World) : Prop :=
  ∃ v c', e = .returned (.tuple #[v, .int .i64 (dataF xs).2]) ∧ Own u8 5 w' c' 7 [] w.heap.size v (dataF xs).1 ∧ Ext [] w c w' c'
set_option maxRecDepth 100000 in
set_option maxHeartbeats 3200000 in
theorem data_calls (xs : List Int) (A : Option Addr) (cap : Nat) (w : World) (c : Col) (S : List Nat) (h7 : 7 ∉ S) (hx : Rd u8 w c S (.slice A xs.length cap) xs) (h10 : 10 ≤ xs.length) (hl : xs.length ≤ 1000) (hmod : (xs.length - 10) % 18 = 0 ∨ 3 ≤ (xs.length - 10) % 18) :
    Calls Try.prog 34 #[.slice A xs.length cap] w (DataP xs w c) := by
  have hE0 := Ext.refl [] w c
  have hS7 : ∀ k, k ∈ S → k ∉ [7] := fun k hk he => h7 (by simp at he; rw [← he]; exact hk)
  have hcc : xs.length ≤ cap := by obtain ⟨_, _, e, h⟩ := hx.slice; injection e with _ _ e; omega
  go_enter Try.func34, Try.ntmps34
  go_wp2
  go_loopw [4, 5] (fun o i wr => ∃ (f a : Nat) (c' : Col) (out : List Int), i = .int .i64 a ∧ 10 ≤ a ∧ (a - 10) % 18 = 0 ∧ a ≤ xs.length + 17 ∧ dataF xs = dataV f a (xs.drop a) out ∧ (xs.drop a).length ≤ f ∧ out.length ≤ a ∧ Own u8 5 wr c' 7 [] w.heap.size o out ∧ Rd u8 wr c' S (.slice A xs.length cap) xs ∧ Ext [] w c wr c') (fun _ i _ => xs.length + 18 - (intOf i).toNat)
  case atStart => exact ⟨xs.length, 10, c, [], rfl, by omega, rfl, by omega, rfl, by rw [List.length_drop]; omega, by simp, Own.nil _ _ _ _ _ _ _, hx, hE0⟩
  case round =>
    clear hx hE0
    obtain ⟨f, a, c', out, rfl, ha, hm, hal, hd, hf, hol, ho, hx, hE⟩ := hrel
    by_cases hlt : a < xs.length
    · obtain ⟨m, hm1, hm2, hm3⟩ : ∃ m : Nat, m = min 18 (xs.length - a) ∧ 3 ≤ m ∧ a + m ≤ xs.length := ⟨_, rfl, by omega, by omega⟩
      obtain ⟨n, hn⟩ : ∃ n, m = n + 2 := ⟨m - 2, by omega⟩
      obtain ⟨hi, hmin, hhi⟩ : ∃ hi : Int, (if (xs.length : Int) < ↑a + 16 + 2 then (xs.length : Int) else ↑a + 16 + 2) = hi ∧ hi = ((a + m : Nat) : Int) := ⟨_, rfl, by split <;> omega⟩
      obtain ⟨A3, hcut, hrd⟩ := Sk.cut_lh (P := Try.prog) Wire.u8 22 5 _ _ Try.underlying22 info_u8 A xs.length cap .i64 .i64 a hi m (by omega) (by omega) (by omega) hcc
      obtain ⟨A4, hcut4, hrd4⟩ := Sk.cut_h (P := Try.prog) Wire.u8 22 5 _ _ Try.underlying22 info_u8 A3 m (cap - (a : Int).toNat) .i64 (n : Int) n rfl (by omega) (by omega)
      have hr3 := hrd wr c' S xs hx
      have hml : ((xs.drop a).take m).length = m := by rw [List.length_take, List.length_drop]; omega
      simp only [Int.toNat_natCast] at hcut hcut4 hr3 hrd4
      have hw : wrap64 ((m : Int) - 2) = n := by unfold wrap64; omega
      obtain ⟨A0, cap0, rfl⟩ := ho.slice
      have H1 := Lib.hid hhi
      have H2 := Lib.hid hm2
      have H3 := Lib.hid hm3
      have H4 := Lib.hid hn
      have H5 := Lib.hid hrd4
      have H6 := Lib.hid hml
      have hm18 : m = min 18 (xs.drop a).length := by rw [List.length_drop]; exact hm1
      have H7 := Lib.hid hm18
      clear hhi hm2 hm3 hn hm1 hrd hrd4 hml hm18
      generalize hys : (xs.drop a).take m = ys at *
      have H8 := Lib.hid hys
      clear hys
      have hstep := data_step f a (xs.drop a) out m ys (by have := H4.out; omega) H7.out H8.out
      rw [List.drop_drop, ← hd] at hstep
      obtain ⟨f', rfl, hs1, hs2⟩ := hstep hf
      have H9 := Lib.hid hs1
      have H10 := Lib.hid hs2
      clear hs1 hs2 hd
      cases hfit : fitsV ys
      case false =>
        go_wp2_with (first
          | (go_at_call 32
             have htok := hE
             clear htok
             have hQ := fits_calls ys A3 (cap - a) wr c' S (by rw [H6.out]; exact hr3) (by rw [H6.out]; have := H2.out; omega) (by rw [H6.out]; have := H3.out; omega)
             rw [H6.out, hfit] at hQ
             refine hQ.mono ?_
             rintro e w2 ⟨c2, rfl, he⟩
             have hE2 := hE.trans he
             replace ho := ho.ext he (by simp) (by simp)
             replace hx := hx.ext he (by simp)
             replace hr3 := hr3.ext he (by simp)
             clear hE he hQ))
        go_ret2
        have e1 := H9.out hfit
        exact ⟨.slice none 0 0, c2, by rw [e1]; rfl, by rw [e1]; exact Own.nil _ _ _ _ _ _ _, hE2⟩
      case true =>
        go_wp2_with (first
          | (go_at_call 32
             have htok := hE
             clear htok
             have hQ := fits_calls ys A3 (cap - a) wr c' S (by rw [H6.out]; exact hr3) (by rw [H6.out]; have := H2.out; omega) (by rw [H6.out]; have := H3.out; omega)
             rw [H6.out, hfit] at hQ
             refine hQ.mono ?_
             rintro e w2 ⟨c2, rfl, he⟩
             have hE2 := hE.trans he
             replace ho := ho.ext he (by simp) (by simp)
             replace hx := hx.ext he (by simp)
             replace hr3 := hr3.ext he (by simp)
             clear hE he hQ)
          | (at_builtin
             have htok := hE2
             clear htok
             have hr4 := H5.out w2 c2 S ys hr3
             have hyl : (ys.take n).length = n := by rw [List.length_take, H6.out]; have := H4.out; omega
             have hsz : (out.length + (ys.take n).length) * 1 ≤ 140737488355328 := by rw [hyl]; have := H3.out; have := H4.out; omega
             refine own_append Wire.u8 (by decide) rfl _ _ 22 5 (.int .u8 0) 1 rfl Try.underlying22 info_u8 rfl (by decide) rfl rfl (hE2.size) ho (by simp) hr4 (fun x cs _ hK => kint_any hK) hsz ?_
             intro vv w3 ho3 he hb
             have hE3 := hE2.later (Nat.le_refl _) (ho.below hb (hE2.size)) he.col
             replace hx := hx.ext he hS7
             obtain ⟨A5, cap5, rfl⟩ := ho3.slice
             clear ho hE2 he hb hr4 hr3 hsz))
        go_roundw
        case rel => exact ⟨f', a + 18, _, out ++ ys.take n, by go_num, by omega, by omega, by omega, H10.out hfit n H4.out, by rw [List.length_drop] at hf ⊢; omega, by simp only [List.length_append, List.length_take]; have := H6.out; have := H4.out; have := H7.out; omega, by have := ho3; rw [List.length_append, hyl] at this; exact this, hx, hE3⟩
        case measure => simp [intOf]; omega
    · obtain ⟨A0, cap0, rfl⟩ := ho.slice
      go_wp2
      go_ret2
      have e1 : dataF xs = (out, -1) := by
        rw [hd, List.drop_of_length_le (by omega)]
        exact data_nil f a out
      exact ⟨.slice A0 out.length cap0, c', by rw [e1]; rfl, by rw [e1]; exact ho, hE⟩
end Go.Proofs.Ytkchcihglpcmiaa.Link
