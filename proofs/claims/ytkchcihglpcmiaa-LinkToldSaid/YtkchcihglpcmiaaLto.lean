/- The walk of LinkTold. -/
import Derived.Test.YtkchcihglpcmiaaLsz
import Derived.Test.YtkchcihglpcmiaaLpure2
namespace Go.Proofs.Ytkchcihglpcmiaa.Link
open Go.RowKit Go.Proofs.Ytkchcihglpcmiaa.Sk Go.Proofs.Ytkchcihglpcmiaa.Num Go.Proofs.Ytkchcihglpcmiaa.Wire Go.Proofs.Ytkchcihglpcmiaa.PLk
open Go.Proofs.YtkchcihglpcmiaaW.PrintWords Go.Proofs.YtkchcihglpcmiaaW.PrintLast Go.Proofs.YtkchcihglpcmiaaW.PrintMore

set_option maxRecDepth 100000 in
set_option maxHeartbeats 6400000 in
theorem to_long (xs : List Int) (A1 : Option Addr) (cap1 : Nat) (w : World) (hx : Rd (kint .u8) w (fun _ => 0) [0] (.slice A1 xs.length cap1) xs) (hl : 6000 < xs.length) :
    Calls Try.prog 5 #[.slice A1 xs.length cap1] w (GoodB w) := by
  have hF := fun w c => first_calls w c
  have HF := Lib.hid hF
  clear hF
  have hE0 := Ext.refl [30] w (fun _ => 0)
  have d0 : decide ((6000 : Int) < xs.length) = true := decide_eq_true (by omega)
  clear hl
  go_enter Try.func5, Try.ntmps5
  go_wp2_with (first
    | (go_at_call 10
       have htok := hE0
       clear htok
       refine (HF.out w (fun _ => 0)).mono ?_
       rintro e w1 ⟨c1, rfl, he⟩
       have hE1 := hE0.trans (he.mono (by simp))
       replace hx := hx.ext he (by simp)
       clear hE0 he)
    | (go_at_call 15
       have htok := hE1
       clear htok
       refine (new_calls w1 c1 30 [6]).mono ?_
       rintro e w2 ⟨c2, g, rfl, hg, hs, he⟩
       have hE2 := hE1.trans (he.mono (by simp))
       replace hx := hx.ext he (by simp)
       clear hg
       clear hE1 he)
    | (go_at_call 10
       have htok := hE2
       clear htok
       refine (HF.out w2 c2).mono ?_
       rintro e w3 ⟨c3, rfl, he⟩
       have hE3 := hE2.trans (he.mono (by simp))
       clear hE2 he))
  go_ret
  exact ⟨rfl, hE3.below (by simp)⟩

theorem sumL_ge : ∀ fs : List Fr, fs.length ≤ sumL fs
  | [] => by simp [sumL]
  | f :: fs => by
    have := sumL_ge fs
    simp only [sumL, List.length_cons, sizeV]; omega

set_option maxRecDepth 100000 in
set_option maxHeartbeats 6400000 in
theorem to_main (xs : List Int) (A1 : Option Addr) (cap1 : Nat) (w : World) (hx : Rd (kint .u8) w (fun _ => 0) [0] (.slice A1 xs.length cap1) xs) (hl : xs.length ≤ 6000) (fs : List Fr) (rest : List Int) (lst : Int) (hfeed : feedF (([] : List Int) ++ xs) 0 = (fs, rest, lst)) (hok : ∀ f, f ∈ fs → f.may ∧ f.data.length ≤ 250) (hsum : lst + rest.length + sumL fs = xs.length) (hl0 : 0 ≤ lst) :
    Calls Try.prog 5 #[.slice A1 xs.length cap1] w (GoodB w) := by
  have hF := fun w c => first_calls w c
  have HF := Lib.hid hF
  clear hF
  have hE0 := Ext.refl [30] w (fun _ => 0)
  have d0 : decide ((6000 : Int) < xs.length) = false := decide_eq_false (by omega)
  have hfl : fs.length ≤ 6000 := by have := sumL_ge fs; omega
  have HFE := Lib.hid hfeed
  have HS := Lib.hid hsum
  clear hfeed hsum
  go_enter Try.func5, Try.ntmps5
  go_wp2_with (first
    | (go_at_call 10
       have htok := hE0
       clear htok
       refine (HF.out w (fun _ => 0)).mono ?_
       rintro e w1 ⟨c1, rfl, he⟩
       have hE1 := hE0.trans (he.mono (by simp))
       replace hx := hx.ext he (by simp)
       clear hE0 he)
    | (go_at_call 15
       have htok := hE1
       clear htok
       refine (new_calls w1 c1 30 [6]).mono ?_
       rintro e w2 ⟨c2, g, rfl, hg, hs, he⟩
       have hE2 := hE1.trans (he.mono (by simp))
       replace hx := hx.ext he (by simp)
       clear hg
       clear hE1 he)
    | (go_at_call 16
       have htok := hE2
       clear htok
       have hQ := feed_calls g 30 [] xs 0 _ w2 c2 [6] [0] (by decide) (by simp) hs hx (by rw [List.length_nil]; omega) (by omega)
       unfold FeedP at hQ
       rw [HFE.out] at hQ
       refine hQ.mono ?_
       rintro e w3 ⟨v3, c3, rfl, ho, hs3, he⟩
       have hE3 := hE2.trans he
       have hr : Rd kfr w3 c3 [7, 8] v3 fs := ho.rd (by simp) (by simp)
       clear hE2 he hQ hs ho hx)
    | (go_at_call 17
       have htok := hE3
       clear htok
       refine (lost_calls g 30 _ _ w3 c3 [6] hs3).mono ?_
       rintro e w4 ⟨rfl, he⟩
       have hE4 := hE3.trans (he.mono (by simp))
       replace hs3 := hs3.ext he (by simp) (by simp)
       replace hr := hr.ext he (by simp)
       clear hE3 he)
    | (go_at_call 18
       have htok := hE4
       clear htok
       refine (pending_calls g 30 _ _ w4 c3 [6] hs3).mono ?_
       rintro e w5 ⟨rfl, he⟩
       have hE5 := hE4.trans (he.mono (by simp))
       replace hr := hr.ext he (by simp)
       clear hE4 he hs3
       have hn0 : wrap64 (lst + (rest.length : Int)) = lst + rest.length := by have := HS.out; unfold wrap64; omega))
  obtain ⟨A3, cap3, rfl, hcap3⟩ := hr.slice
  go_loopw [5, 6] (fun n i wr => ∃ (k : Nat) (c' : Col), k ≤ fs.length ∧ i = .int .i64 k ∧ n = .int .i64 (lst + rest.length + (sumL (fs.take k) : Nat)) ∧ Rd kfr wr c' [7, 8] (.slice A3 fs.length cap3) fs ∧ Ext [30] w (fun _ => 0) wr c') (fun _ i _ => fs.length - (intOf i).toNat)
  case atStart => exact ⟨0, c3, Nat.zero_le _, rfl, by first | (rw [hn0]; simp [sumL]; done) | (simp [sumL, hn0]; done) | (trace_state; simp [sumL]), hr, hE5⟩
  case round =>
    clear hr hE5 hn0
    obtain ⟨k, c', hk, rfl, rfl, hr, hE⟩ := hrel
    by_cases hlt : k < fs.length
    · have y0 : fs[k]? = some fs[k] := List.getElem?_eq_getElem hlt
      have hst : sumL (fs.take (k + 1)) = sumL (fs.take k) + sizeV fs[k].data.length := by rw [List.take_add_one, y0]; exact sumL_snoc _ _
      have hle := sumL_take fs (k + 1)
      obtain ⟨hm, hdl⟩ := hok _ (List.mem_of_getElem? y0)
      generalize fs[k] = f at *
      have hlen := enc_len f
      obtain ⟨f0, f1, f2, fd⟩ := f
      obtain ⟨m1, m2, m3, m4, m5, m6⟩ := hm
      have hEN : Hid (∀ w c A cap, Rd (kint .u8) w c [7, 8] (.slice A fd.length cap) fd → Calls Try.prog 11 #[.agg #[.int .i64 f0, .int .i64 f1, .int .i64 f2, .slice A fd.length cap]] w (EncOk (encB ⟨f0, f1, f2, fd⟩) w c 40)) := fun w c A cap hh => enc_ok f0 f1 f2 fd A cap w c [7, 8] 40 (by simp) hh m1 m2 m3 m4 m5 m6 hdl
      generalize encB ⟨f0, f1, f2, fd⟩ = bs at *
      obtain ⟨B, o', cap4, A7, cap7, e1, hrd, hBl, hcB, q0, q1, q2, q3⟩ := fr_cells hr y0
      injection e1 with e1 _ e2
      subst e1
      subst e2
      simp only at q0 q1 q2 q3 hrd hdl hst
      have d1 : decide ((250 : Int) < fd.length) = false := decide_eq_false (by omega)
      have hw1 : wrap64 (lst + (rest.length : Int) + (sumL (fs.take k) : Nat) + (bs.length : Int)) = lst + rest.length + (sumL (fs.take (k + 1)) : Nat) := by
        have := HS.out
        rw [hst]
        simp only at hlen
        unfold wrap64
        omega
      have HST := Lib.hid hw1
      have HLT := Lib.hid hlt
      have Y := Lib.hid y0
      clear hw1 hst hle hlen m1 m2 m3 m4 m5 m6 hdl hBl hcB y0
      go_wp2_with (first
        | (go_at_call 11
           have htok := hE
           clear htok
           refine (hEN.out wr c' A7 cap7 hrd).mono ?_
           rintro e w6 ⟨A6, cap6, c6, rfl, ho6, he⟩
           have hE6 := hE.trans (he.mono (by simp))
           replace hr := hr.ext he (by simp)
           replace q3 := he.cell q3 (by simp)
           clear hE he hrd q0 q1 q2 ho6))
      go_roundw
      case rel => exact ⟨k + 1, c6, HLT.out, by go_num, by rw [HST.out], hr, hE6⟩
      case measure => have := HLT.out; simp [intOf]; omega
    · have hst : lst + (rest.length : Int) + (sumL (fs.take k) : Nat) = xs.length := by rw [List.take_of_length_le (by omega)]; exact HS.out
      rw [hst]
      clear hst
      go_wp2_with (first
        | (go_at_call 10
           have htok := hE
           clear htok
           refine (HF.out wr c').mono ?_
           rintro e w7 ⟨c7, rfl, he⟩
           have hE7 := hE.trans (he.mono (by simp))
           clear hE he))
      go_ret
      exact ⟨rfl, hE7.below (by simp)⟩
theorem told_walk (xs : List Int) (A1 : Option Addr) (cap1 : Nat) (w : World) (hx : Rd (kint .u8) w (fun _ => 0) [0] (.slice A1 xs.length cap1) xs) :
    Calls Try.prog 5 #[.slice A1 xs.length cap1] w (GoodB w) := by
  by_cases h1 : 6000 < xs.length
  · exact to_long xs A1 cap1 w hx h1
  · obtain ⟨i1, i2, i3⟩ := feed_told (xs.length + 1) xs 0 (Rd.bytes8 hx) (by omega)
    refine to_main xs A1 cap1 w hx (by omega) _ _ _ (by rw [List.nil_append]; exact rfl) i1 ?_ i3
    have := i2
    rw [Int.zero_add] at this
    exact this
end Go.Proofs.Ytkchcihglpcmiaa.Link
