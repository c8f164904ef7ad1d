/- The walk of HeadCuts: a header that is cut off anywhere is none. -/
import Derived.Test.YtgihcfkcghohnaaFst17
namespace Go.Proofs.Ytgihcfkcghohnaa.Head
open Go.RowKit Go.Proofs.Ytgihcfkcghohnaa.Sk Go.Proofs.Ytgihcfkcghohnaa.Num Go.Proofs.Ytgihcfkcghohnaa.Wire

theorem Hdr.bytes_length (h : Hdr) : (h.bytes.length : Int) = 3 + (if h.q = 0 ∨ h.q = 1 then 2 * (widthV h.q).1 else (widthV h.q).1) ∨ (widthV h.q).1 < 0 := by
  by_cases hk : (widthV h.q).1 < 0
  · exact .inr hk
  · left
    unfold Hdr.bytes
    split <;> simp [leB_length] <;> omega
theorem parse_cut (h : Hdr) (hm : h.may) (n : Nat) (hn : n < h.bytes.length) : parseS (h.bytes.take n) 0 = .error 2 := by
  have hl := h.bytes_length
  have hq := widthV_cases h.q
  rcases hq with hq | ⟨hq, hq1, hq2, hq3, hq4, hq5, hq6, hq7, hq8⟩
  · rw [hm.1] at hq; cases hq
  have ht : ((h.bytes.take n).length : Int) = n := by rw [List.length_take]; omega
  unfold parseS
  by_cases h3 : n < 3
  · rw [if_pos (by omega)]
  · rw [if_neg (by omega)]
    have e2 : (h.bytes.take n).getD ((0 : Int).toNat + 2) 0 = h.q := by
      have : (0 : Int).toNat + 2 = 2 := rfl
      rw [this, List.getD_eq_getElem?_getD, List.getElem?_take_of_lt (by omega)]
      unfold Hdr.bytes; rfl
    simp only [e2, hq, Bool.true_eq_false, if_false]
    rw [ht, if_pos (by omega)]
set_option maxHeartbeats 1600000 in
theorem headCuts_walk (h : Hdr) (cut : Int) (w : World) : Calls Try.prog 4 #[h.val, .int .i64 cut] w fun e w' => e = .returned (.bool true) ∧ Below w.heap.size w w' := by
  have hE0 := Ext.alloc [] w (fun _ => 0) (.cells #[.int .i64 h.g, .int .i64 h.v, .int .i64 h.q, .int .i64 h.f, .int .i64 h.l, .int .i64 h.c] 23) 0
  have hb0 := Bx.new w (fun _ => 0) 0 #[.int .i64 h.g, .int .i64 h.v, .int .i64 h.q, .int .i64 h.f, .int .i64 h.l, .int .i64 h.c] 23
  have hF := fun w c => first_calls w c
  have HF := Lib.hid hF
  clear hF
  by_cases hm : h.may
  · have hP : ∀ w c, Calls Try.prog 8 #[h.val] w (fun e w' => ∃ A cap c', e = .returned (.tuple #[.slice A h.bytes.length cap, .nilIface]) ∧ Own u8 5 w' c' 1 [] w.heap.size (.slice A h.bytes.length cap) h.bytes ∧ Ext [] w c w' c') := fun w c => print_ok h w c 1 hm
    have hcut := fun n hn => parse_cut h hm n hn
    have hlen : h.bytes.length ≤ 1000 := by
      have := h.bytes_length
      rcases widthV_cases h.q with hq | hq
      · rw [hm.1] at hq; cases hq
      · have hq1 := hq.2.2.1; have hq2 := hq.2.2.2.1; omega
    simp only [Hdr.val] at hP
    simp only [Hdr.val]
    generalize h.bytes = bs at *
    have HP := Lib.hid hP
    have HC := Lib.hid hcut
    clear hP hcut hm
    by_cases hc : cut < 0 ∨ bs.length ≤ cut
    · have ends : ∀ d1 d2 : Bool, decide (cut < 0) = d1 → decide ((bs.length : Int) ≤ cut) = d2 → (d1 || d2) = true → Calls Try.prog 4 #[.agg #[.int .i64 h.g, .int .i64 h.v, .int .i64 h.q, .int .i64 h.f, .int .i64 h.l, .int .i64 h.c], .int .i64 cut] w fun e w' => e = .returned (.bool true) ∧ Below w.heap.size w w' := by
        intro d1 d2 h1 h2 h3
        clear hc
        rcases d1 with _ | _ <;> rcases d2 with _ | _
        · cases h3
        all_goals
          clear h3
          go_enter Try.func4, Try.ntmps4
          go_wp2_with (first
            | (go_at_call 7
               have hE0' := hE0
               refine (HF.out _ (cx (fun _ => 0) w.heap.size 0)).mono ?_
               rintro e w1 ⟨c1, rfl, he1⟩
               have hE1 := hE0.trans he1
               replace hb0 := hb0.ext he1 (by simp)
               clear he1 hE0 hE0'
               obtain ⟨k0, k1, k2, k3, k4, k5⟩ := hb0.six)
            | (go_at_call 8
               refine (HP.out _ c1).mono ?_
               rintro e w2 ⟨A2, cap2, c2, rfl, ho2, he2⟩
               have hE2 := hE1.trans he2
               clear hE1 he2)
            | (go_at_call 7
               refine (HF.out _ c2).mono ?_
               rintro e w3 ⟨c3, rfl, he3⟩
               have hE3 := hE2.trans he3
               clear he3))
          go_ret
          exact ⟨rfl, hE3.belowAll⟩
      exact ends _ _ rfl rfl (by simpa using hc)
    · have d1 : decide (cut < 0) = false := decide_eq_false (by omega)
      have d2 : decide ((bs.length : Int) ≤ cut) = false := decide_eq_false (by omega)
      have hcn : cut.toNat < bs.length := by omega
      have q1 : 0 ≤ cut := by omega
      have q2 : cut ≤ (bs.length : Int) := by omega
      clear hc
      go_enter Try.func4, Try.ntmps4
      go_wp2_with (first
            | (go_at_call 7
               have hE0' := hE0
               refine (HF.out _ (cx (fun _ => 0) w.heap.size 0)).mono ?_
               rintro e w1 ⟨c1, rfl, he1⟩
               have hE1 := hE0.trans he1
               replace hb0 := hb0.ext he1 (by simp)
               clear he1 hE0 hE0'
               obtain ⟨k0, k1, k2, k3, k4, k5⟩ := hb0.six)
            | (go_at_call 8
               refine (HP.out _ c1).mono ?_
               rintro e w2 ⟨A2, cap2, c2, rfl, ho2, he2⟩
               have hE2 := hE1.trans he2
               clear hE1 he2
               obtain ⟨A3, hcut, hrd⟩ := cut_h (P := Try.prog) u8 24 5 _ _ Try.underlying24 info_u8 A2 bs.length cap2 .i64 cut cut.toNat (by omega) q2 (by obtain ⟨_, _, e, h⟩ := (ho2.rd (S' := [1]) (by simp) (by simp)).slice; injection e with _ _ e; omega)
               have hrd := hrd w2 c2 [1] bs (ho2.rd (by simp) (by simp)))
            | (go_at_call 11
               have hQ := parse_calls (bs.take cut.toNat) 0 _ w2 c2 [1] 0 hrd (by rw [List.length_take]; omega) (by omega)
               unfold ParsePost at hQ
               rw [HC.out cut.toNat hcn] at hQ
               refine hQ.mono ?_
               rintro e w3 ⟨v3, c3, rfl, ⟨g3, ve3, rfl, hx3⟩, he3⟩
               have hE3 := hE2.trans he3
               clear hQ hE2 he3 hx3 hrd hcut
               simp only [Hdr.val, Hdr.zero])
            | (go_at_call 7
               have hE4 := hE3.trans (Ext.alloc [] w3 c3 (.cells #[.int .i64 0, .int .i64 0, .int .i64 0, .int .i64 0, .int .i64 0, .int .i64 0] 23) 0)
               refine (HF.out _ (cx c3 w3.heap.size 0)).mono ?_
               rintro e w5 ⟨c5, rfl, he5⟩
               have hE5 := hE4.trans he5
               clear he5))
      go_ret
      exact ⟨rfl, hE5.belowAll⟩
  · have hP := fun w c => print_bad h w c 1 hm
    simp only [Hdr.val] at hP
    simp only [Hdr.val]
    have HP := Lib.hid hP
    clear hP hm
    go_enter Try.func4, Try.ntmps4
    go_wp2_with (first
            | (go_at_call 7
               have hE0' := hE0
               refine (HF.out _ (cx (fun _ => 0) w.heap.size 0)).mono ?_
               rintro e w1 ⟨c1, rfl, he1⟩
               have hE1 := hE0.trans he1
               replace hb0 := hb0.ext he1 (by simp)
               clear he1 hE0 hE0'
               obtain ⟨k0, k1, k2, k3, k4, k5⟩ := hb0.six)
            | (go_at_call 8
               refine (HP.out _ c1).mono ?_
               rintro e w2 ⟨v2, c2, rfl, ⟨g2, ve2, rfl, hx2⟩, he2⟩
               have hE2 := hE1.trans he2
               clear hE1 he2 hx2)
            | (go_at_call 7
               refine (HF.out _ c2).mono ?_
               rintro e w3 ⟨c3, rfl, he3⟩
               have hE3 := hE2.trans he3
               clear he3))
    go_ret
    exact ⟨rfl, hE3.belowAll⟩
end Go.Proofs.Ytgihcfkcghohnaa.Head
