/- The walk of LinkNoise. -/
import Derived.Test.YtkchcihglpcmiaaLsz
namespace Go.Proofs.Ytkchcihglpcmiaa.Link
open Go.RowKit Go.Proofs.Ytkchcihglpcmiaa.Sk Go.Proofs.Ytkchcihglpcmiaa.Num Go.Proofs.Ytkchcihglpcmiaa.Wire Go.Proofs.Ytkchcihglpcmiaa.PLk
open Go.Proofs.YtkchcihglpcmiaaW.PrintWords Go.Proofs.YtkchcihglpcmiaaW.PrintLast Go.Proofs.YtkchcihglpcmiaaW.PrintMore

set_option maxRecDepth 100000 in
set_option maxHeartbeats 6400000 in
theorem no_long (xs : List Int) (A1 : Option Addr) (cap1 : Nat) (ctl dest src : Int) (ds : List Int) (A : Option Addr) (cap : Nat) (w : World) (hx0 : Rd (kint .u8) w (fun _ => 0) [0] (.slice A1 xs.length cap1) xs) (hd0 : Rd (kint .u8) w (fun _ => 0) [0] (.slice A ds.length cap) ds) (hl : 2000 < xs.length) :
    Calls Try.prog 6 #[.slice A1 xs.length cap1, .agg #[.int .i64 ctl, .int .i64 dest, .int .i64 src, .slice A ds.length cap]] w (GoodB w) := by
  have hF := fun w c => first_calls w c
  have HF := Lib.hid hF
  clear hF
  have hE0 := Ext.alloc [30] w (fun _ => 0) (.cells #[.int .i64 ctl, .int .i64 dest, .int .i64 src, .slice A ds.length cap] 24) 1
  have hb0 := Bx.new w (fun _ => 0) 1 #[.int .i64 ctl, .int .i64 dest, .int .i64 src, .slice A ds.length cap] 24
  have hx := hx0.ext (M := []) ⟨hE0.os, hE0.tape, hE0.output, hE0.size, hE0.col, fun k hk _ => hE0.keep k hk (by simp)⟩ (by simp)
  have hd := hd0.ext (M := []) ⟨hE0.os, hE0.tape, hE0.output, hE0.size, hE0.col, fun k hk _ => hE0.keep k hk (by simp)⟩ (by simp)
  generalize hcz : cx (fun _ => 0) w.heap.size 1 = cz at *
  clear hcz hx0 hd0
  have d0 : decide ((2000 : Int) < xs.length) = true := decide_eq_true (by omega)
  clear hl
  go_enter Try.func6, Try.ntmps6
  go_wp2_with (first
    | (go_at_call 10
       have htok := hE0
       clear htok
       refine (HF.out (w.alloc (.cells #[.int .i64 ctl, .int .i64 dest, .int .i64 src, .slice A ds.length cap] 24)) cz).mono ?_
       rintro e w1 ⟨c1, rfl, he⟩
       have hE1 := hE0.trans (he.mono (by simp))
       replace hb0 := hb0.ext he (by simp)
       replace hx := hx.ext he (by simp)
       replace hd := hd.ext he (by simp)
       obtain ⟨⟨k0a, k1a, k2a, k3a⟩, _⟩ := Link.Bx.four hb0
       clear hE0 he)
    | (go_at_call 15
       have htok := hE1
       clear htok
       refine (new_calls w1 c1 30 [6]).mono ?_
       rintro e w2 ⟨c2, g, rfl, hg, hs, he⟩
       have hE2 := hE1.trans (he.mono (by simp))
       replace hb0 := hb0.ext he (by simp)
       replace hx := hx.ext he (by simp)
       replace hd := hd.ext he (by simp)
       clear hg
       clear k0a k1a k2a k3a
       obtain ⟨⟨k0b, k1b, k2b, k3b⟩, _⟩ := Link.Bx.four hb0
       clear hE1 he)
    | (go_at_call 10
       have htok := hE2
       clear htok
       refine (HF.out w2 c2).mono ?_
       rintro e w3 ⟨c3, rfl, he⟩
       have hE3 := hE2.trans (he.mono (by simp))
       replace hb0 := hb0.ext he (by simp)
       clear k0b k1b k2b k3b
       clear hE2 he))
  go_ret
  exact ⟨rfl, hE3.below (by simp)⟩

set_option maxRecDepth 100000 in
set_option maxHeartbeats 6400000 in
theorem no_big (xs : List Int) (A1 : Option Addr) (cap1 : Nat) (ctl dest src : Int) (ds : List Int) (A : Option Addr) (cap : Nat) (w : World) (hx0 : Rd (kint .u8) w (fun _ => 0) [0] (.slice A1 xs.length cap1) xs) (hd0 : Rd (kint .u8) w (fun _ => 0) [0] (.slice A ds.length cap) ds) (hl : xs.length ≤ 2000) (hl2 : 6000 < ds.length) :
    Calls Try.prog 6 #[.slice A1 xs.length cap1, .agg #[.int .i64 ctl, .int .i64 dest, .int .i64 src, .slice A ds.length cap]] w (GoodB w) := by
  have hF := fun w c => first_calls w c
  have HF := Lib.hid hF
  clear hF
  have hE0 := Ext.alloc [30] w (fun _ => 0) (.cells #[.int .i64 ctl, .int .i64 dest, .int .i64 src, .slice A ds.length cap] 24) 1
  have hb0 := Bx.new w (fun _ => 0) 1 #[.int .i64 ctl, .int .i64 dest, .int .i64 src, .slice A ds.length cap] 24
  have hx := hx0.ext (M := []) ⟨hE0.os, hE0.tape, hE0.output, hE0.size, hE0.col, fun k hk _ => hE0.keep k hk (by simp)⟩ (by simp)
  have hd := hd0.ext (M := []) ⟨hE0.os, hE0.tape, hE0.output, hE0.size, hE0.col, fun k hk _ => hE0.keep k hk (by simp)⟩ (by simp)
  generalize hcz : cx (fun _ => 0) w.heap.size 1 = cz at *
  clear hcz hx0 hd0
  have d0 : decide ((2000 : Int) < xs.length) = false := decide_eq_false (by omega)
  have d1 : decide ((6000 : Int) < ds.length) = true := decide_eq_true (by omega)
  clear hl hl2
  go_enter Try.func6, Try.ntmps6
  go_wp2_with (first
    | (go_at_call 10
       have htok := hE0
       clear htok
       refine (HF.out (w.alloc (.cells #[.int .i64 ctl, .int .i64 dest, .int .i64 src, .slice A ds.length cap] 24)) cz).mono ?_
       rintro e w1 ⟨c1, rfl, he⟩
       have hE1 := hE0.trans (he.mono (by simp))
       replace hb0 := hb0.ext he (by simp)
       replace hx := hx.ext he (by simp)
       replace hd := hd.ext he (by simp)
       obtain ⟨⟨k0a, k1a, k2a, k3a⟩, _⟩ := Link.Bx.four hb0
       clear hE0 he)
    | (go_at_call 15
       have htok := hE1
       clear htok
       refine (new_calls w1 c1 30 [6]).mono ?_
       rintro e w2 ⟨c2, g, rfl, hg, hs, he⟩
       have hE2 := hE1.trans (he.mono (by simp))
       replace hb0 := hb0.ext he (by simp)
       replace hx := hx.ext he (by simp)
       replace hd := hd.ext he (by simp)
       clear hg
       clear k0a k1a k2a k3a
       obtain ⟨⟨k0b, k1b, k2b, k3b⟩, _⟩ := Link.Bx.four hb0
       clear hE1 he)
    | (go_at_call 10
       have htok := hE2
       clear htok
       refine (HF.out w2 c2).mono ?_
       rintro e w3 ⟨c3, rfl, he⟩
       have hE3 := hE2.trans (he.mono (by simp))
       replace hb0 := hb0.ext he (by simp)
       clear k0b k1b k2b k3b
       clear hE2 he))
  go_ret
  exact ⟨rfl, hE3.below (by simp)⟩

set_option maxRecDepth 100000 in
set_option maxHeartbeats 6400000 in
theorem no_bad (xs : List Int) (A1 : Option Addr) (cap1 : Nat) (ctl dest src : Int) (ds : List Int) (A : Option Addr) (cap : Nat) (w : World) (hx0 : Rd (kint .u8) w (fun _ => 0) [0] (.slice A1 xs.length cap1) xs) (hd0 : Rd (kint .u8) w (fun _ => 0) [0] (.slice A ds.length cap) ds) (hl : xs.length ≤ 2000) (hl2 : ds.length ≤ 6000) (HE : Hid (∀ w c, Rd (kint .u8) w c [0] (.slice A ds.length cap) ds → Calls Try.prog 11 #[.agg #[.int .i64 ctl, .int .i64 dest, .int .i64 src, .slice A ds.length cap]] w (EncBad w c))) :
    Calls Try.prog 6 #[.slice A1 xs.length cap1, .agg #[.int .i64 ctl, .int .i64 dest, .int .i64 src, .slice A ds.length cap]] w (GoodB w) := by
  have hF := fun w c => first_calls w c
  have HF := Lib.hid hF
  clear hF
  have hE0 := Ext.alloc [30] w (fun _ => 0) (.cells #[.int .i64 ctl, .int .i64 dest, .int .i64 src, .slice A ds.length cap] 24) 1
  have hb0 := Bx.new w (fun _ => 0) 1 #[.int .i64 ctl, .int .i64 dest, .int .i64 src, .slice A ds.length cap] 24
  have hx := hx0.ext (M := []) ⟨hE0.os, hE0.tape, hE0.output, hE0.size, hE0.col, fun k hk _ => hE0.keep k hk (by simp)⟩ (by simp)
  have hd := hd0.ext (M := []) ⟨hE0.os, hE0.tape, hE0.output, hE0.size, hE0.col, fun k hk _ => hE0.keep k hk (by simp)⟩ (by simp)
  generalize hcz : cx (fun _ => 0) w.heap.size 1 = cz at *
  clear hcz hx0 hd0
  have d0 : decide ((2000 : Int) < xs.length) = false := decide_eq_false (by omega)
  have d1 : decide ((6000 : Int) < ds.length) = false := decide_eq_false (by omega)
  go_enter Try.func6, Try.ntmps6
  go_wp2_with (first
    | (go_at_call 10
       have htok := hE0
       clear htok
       refine (HF.out (w.alloc (.cells #[.int .i64 ctl, .int .i64 dest, .int .i64 src, .slice A ds.length cap] 24)) cz).mono ?_
       rintro e w1 ⟨c1, rfl, he⟩
       have hE1 := hE0.trans (he.mono (by simp))
       replace hb0 := hb0.ext he (by simp)
       replace hx := hx.ext he (by simp)
       replace hd := hd.ext he (by simp)
       obtain ⟨⟨k0a, k1a, k2a, k3a⟩, _⟩ := Link.Bx.four hb0
       clear hE0 he)
    | (go_at_call 15
       have htok := hE1
       clear htok
       refine (new_calls w1 c1 30 [6]).mono ?_
       rintro e w2 ⟨c2, g, rfl, hg, hs, he⟩
       have hE2 := hE1.trans (he.mono (by simp))
       replace hb0 := hb0.ext he (by simp)
       replace hx := hx.ext he (by simp)
       replace hd := hd.ext he (by simp)
       clear hg
       clear k0a k1a k2a k3a
       obtain ⟨⟨k0b, k1b, k2b, k3b⟩, _⟩ := Link.Bx.four hb0
       clear hE1 he))
  go_loop [6] (fun i => ∃ k : Nat, k ≤ xs.length ∧ i = .int .i64 k ∧ ∀ x, x ∈ xs.take k → x ≠ 5) (fun i => xs.length - (intOf i).toNat)
  case atStart => exact ⟨0, Nat.zero_le _, rfl, fun x h => by simp at h⟩
  case round =>
    obtain ⟨k, hk, rfl, h5⟩ := hrel
    by_cases hlt : k < xs.length
    · obtain ⟨B, o', rfl⟩ := rd_addr hx (by omega)
      have y0 : xs[k]? = some xs[k] := List.getElem?_eq_getElem hlt
      have q0 := rd_cellAt hx k y0
      have ht : xs.take (k + 1) = xs.take k ++ [xs[k]] := by rw [List.take_add_one, y0]; rfl
      have HT := Lib.hid ht
      generalize xs[k] = x0 at *
      clear y0 ht
      by_cases hx5 : x0 = 5
      · subst hx5
        go_wp2_with (first
          | (go_at_call 10
             refine (HF.out w2 c2).mono ?_
             rintro e w3 ⟨c3, rfl, he⟩
             have hE3 := hE2.trans (he.mono (by simp))
             clear he))
        go_ret
        exact ⟨rfl, hE3.below (by simp)⟩
      · have e5 : (x0 == 5) = false := beq_eq_false_iff_ne.2 hx5
        have H5 := Lib.hid hx5
        clear hx5
        go_wp2
        refine ⟨⟨k + 1, by omega, by go_num, fun x h => ?_⟩, by simp [intOf]; omega⟩
        rw [HT.out] at h
        rcases List.mem_append.1 h with h | h
        · exact h5 x h
        · simp at h; subst h; exact H5.out
    · have hall : ∀ x, x ∈ xs → x ≠ 5 := fun x h => h5 x (by rw [List.take_of_length_le (by omega)]; exact h)
      go_wp2_with (first
        | (go_at_call 11
           have htok := hE2
           clear htok
           refine (HE.out w2 c2 hd).mono ?_
           rintro e w3 ⟨tE, uE, c3, rfl, he⟩
           have hE3 := hE2.trans (he.mono (by simp))
           clear k0b k1b k2b k3b
           clear hE2 he)
        | (go_at_call 10
           have htok := hE3
           clear htok
           refine (HF.out w3 c3).mono ?_
           rintro e w4 ⟨c4, rfl, he⟩
           have hE4 := hE3.trans (he.mono (by simp))
           clear hE3 he))
      go_ret
      exact ⟨rfl, hE4.below (by simp)⟩

set_option maxRecDepth 100000 in
set_option maxHeartbeats 6400000 in
theorem no_ok (xs : List Int) (A1 : Option Addr) (cap1 : Nat) (ctl dest src : Int) (ds : List Int) (A : Option Addr) (cap : Nat) (bs : List Int) (w : World) (hx0 : Rd (kint .u8) w (fun _ => 0) [0] (.slice A1 xs.length cap1) xs) (hd0 : Rd (kint .u8) w (fun _ => 0) [0] (.slice A ds.length cap) ds) (hl : xs.length ≤ 2000) (hl2 : ds.length ≤ 6000) (HE : Hid (∀ w c, Rd (kint .u8) w c [0] (.slice A ds.length cap) ds → Calls Try.prog 11 #[.agg #[.int .i64 ctl, .int .i64 dest, .int .i64 src, .slice A ds.length cap]] w (EncOk bs w c 9))) (hbs : bs.length ≤ 400) (hfeed : (∀ x, x ∈ xs → x ≠ 5) → feedF (([] : List Int) ++ (xs ++ bs)) 0 = ([⟨ctl, dest, src, ds⟩], [], (xs.length : Int))) :
    Calls Try.prog 6 #[.slice A1 xs.length cap1, .agg #[.int .i64 ctl, .int .i64 dest, .int .i64 src, .slice A ds.length cap]] w (GoodB w) := by
  have hF := fun w c => first_calls w c
  have HF := Lib.hid hF
  clear hF
  have hE0 := Ext.alloc [30] w (fun _ => 0) (.cells #[.int .i64 ctl, .int .i64 dest, .int .i64 src, .slice A ds.length cap] 24) 1
  have hb0 := Bx.new w (fun _ => 0) 1 #[.int .i64 ctl, .int .i64 dest, .int .i64 src, .slice A ds.length cap] 24
  have hx := hx0.ext (M := []) ⟨hE0.os, hE0.tape, hE0.output, hE0.size, hE0.col, fun k hk _ => hE0.keep k hk (by simp)⟩ (by simp)
  have hd := hd0.ext (M := []) ⟨hE0.os, hE0.tape, hE0.output, hE0.size, hE0.col, fun k hk _ => hE0.keep k hk (by simp)⟩ (by simp)
  generalize hcz : cx (fun _ => 0) w.heap.size 1 = cz at *
  clear hcz hx0 hd0
  have d0 : decide ((2000 : Int) < xs.length) = false := decide_eq_false (by omega)
  have d1 : decide ((6000 : Int) < ds.length) = false := decide_eq_false (by omega)
  go_enter Try.func6, Try.ntmps6
  go_wp2_with (first
    | (go_at_call 10
       have htok := hE0
       clear htok
       refine (HF.out (w.alloc (.cells #[.int .i64 ctl, .int .i64 dest, .int .i64 src, .slice A ds.length cap] 24)) cz).mono ?_
       rintro e w1 ⟨c1, rfl, he⟩
       have hE1 := hE0.trans (he.mono (by simp))
       replace hb0 := hb0.ext he (by simp)
       replace hx := hx.ext he (by simp)
       replace hd := hd.ext he (by simp)
       obtain ⟨⟨k0a, k1a, k2a, k3a⟩, _⟩ := Link.Bx.four hb0
       clear hE0 he)
    | (go_at_call 15
       have htok := hE1
       clear htok
       refine (new_calls w1 c1 30 [6]).mono ?_
       rintro e w2 ⟨c2, g, rfl, hg, hs, he⟩
       have hE2 := hE1.trans (he.mono (by simp))
       replace hb0 := hb0.ext he (by simp)
       replace hx := hx.ext he (by simp)
       replace hd := hd.ext he (by simp)
       clear hg
       clear k0a k1a k2a k3a
       obtain ⟨⟨k0b, k1b, k2b, k3b⟩, _⟩ := Link.Bx.four hb0
       clear hE1 he))
  go_loop [6] (fun i => ∃ k : Nat, k ≤ xs.length ∧ i = .int .i64 k ∧ ∀ x, x ∈ xs.take k → x ≠ 5) (fun i => xs.length - (intOf i).toNat)
  case atStart => exact ⟨0, Nat.zero_le _, rfl, fun x h => by simp at h⟩
  case round =>
    obtain ⟨k, hk, rfl, h5⟩ := hrel
    by_cases hlt : k < xs.length
    · obtain ⟨B, o', rfl⟩ := rd_addr hx (by omega)
      have y0 : xs[k]? = some xs[k] := List.getElem?_eq_getElem hlt
      have q0 := rd_cellAt hx k y0
      have ht : xs.take (k + 1) = xs.take k ++ [xs[k]] := by rw [List.take_add_one, y0]; rfl
      have HT := Lib.hid ht
      generalize xs[k] = x0 at *
      clear y0 ht
      by_cases hx5 : x0 = 5
      · subst hx5
        go_wp2_with (first
          | (go_at_call 10
             refine (HF.out w2 c2).mono ?_
             rintro e w3 ⟨c3, rfl, he⟩
             have hE3 := hE2.trans (he.mono (by simp))
             clear he))
        go_ret
        exact ⟨rfl, hE3.below (by simp)⟩
      · have e5 : (x0 == 5) = false := beq_eq_false_iff_ne.2 hx5
        have H5 := Lib.hid hx5
        clear hx5
        go_wp2
        refine ⟨⟨k + 1, by omega, by go_num, fun x h => ?_⟩, by simp [intOf]; omega⟩
        rw [HT.out] at h
        rcases List.mem_append.1 h with h | h
        · exact h5 x h
        · simp at h; subst h; exact H5.out
    · have hall : ∀ x, x ∈ xs → x ≠ 5 := fun x h => h5 x (by rw [List.take_of_length_le (by omega)]; exact h)
      have hff := hfeed hall
      have HFE := Lib.hid hff
      clear hff hfeed hall h5
      go_wp2_with (first
        | (go_at_call 11
           have htok := hE2
           clear htok
           refine (HE.out w2 c2 hd).mono ?_
           rintro e w3 ⟨A3, cap3, c3, rfl, ho, he⟩
           have hE3 := hE2.trans (he.mono (by simp))
           replace hb0 := hb0.ext he (by simp)
           replace hx := hx.ext he (by simp)
           replace hd := hd.ext he (by simp)
           replace hs := hs.ext he (by simp) (by simp)
           have hr : Rd (kint .u8) w3 c3 [9] (.slice A3 bs.length cap3) bs := ho.rd (by simp) (by simp)
           clear ho k0b k1b k2b k3b
           clear hE2 he)
        | (go_at_call 19
           have htok := hE3
           clear htok
           refine (copy_calls xs _ w3 c3 [0] 11 hx (by omega)).mono ?_
           rintro e w4 ⟨A4, cap4, c4, rfl, ho, he⟩
           have hE4 := hE3.trans (he.mono (by simp))
           replace hb0 := hb0.ext he (by simp)
           replace hx := hx.ext he (by simp)
           replace hd := hd.ext he (by simp)
           replace hs := hs.ext he (by simp) (by simp)
           replace hr := hr.ext he (by simp)
           replace ho := ho.base (β' := w.heap.size) hE3.size
           clear hE3 he)
        | (at_builtin
           have htok := hE4
           clear htok
           have hsz : (xs.length + bs.length) * 1 ≤ 140737488355328 := by omega
           have hge : w.heap.size ≤ w4.heap.size := hE4.size
           refine own_append (kint .u8) (by decide) rfl _ _ 22 5 (.int .u8 0) 1 rfl Try.underlying22 info_u8 rfl (by decide) rfl rfl hge ho (by simp) hr (fun x cs _ hK => kint_any hK) hsz ?_
           intro vv w5 ho5 he hb
           have hE5 := ext_own hE4 (Nat.le_refl _) ho hb hge he.col
           replace hb0 := hb0.ext he (by simp)
           replace hd := hd.ext he (by simp)
           replace hx := hx.ext he (by simp)
           replace hs := hs.ext he (by simp) (by simp)
           generalize cx c4 w4.heap.size 11 = c5 at *
           have hx5 := ho5.rd (S' := [11]) (by simp) (by simp)
           obtain ⟨A5, cap5, rfl⟩ := ho5.slice
           simp only [List.length_append] at hx5
           clear hE4 he hb ho hr hsz ho5)
        | (go_at_call 16
           have htok := hE5
           clear htok
           have hQ := feed_calls g 30 [] (xs ++ bs) 0 _ w5 c5 [6] [11] (by decide) (by simp) hs hx5 (by rw [List.length_append, List.length_nil]; omega) (by omega)
           unfold FeedP at hQ
           rw [HFE.out] at hQ
           refine hQ.mono ?_
           rintro e w6 ⟨v6, c6, rfl, ho6, hs6, he⟩
           have hE6 := hE5.trans he
           replace hb0 := hb0.ext he (by simp)
           replace hd := hd.ext he (by simp)
           have hr6 := ho6.rd (S' := [7, 8]) (by simp) (by simp)
           clear hE5 he hQ hs hx5 ho6 hx))
      obtain ⟨B, o', cap7, A7, cap8, rfl, hr7, hBl, hcB, q0, q1, q2, q3⟩ := fr_cells (i := 0) hr6 rfl
      obtain ⟨⟨k0, k1, k2, k3⟩, _⟩ := Link.Bx.four hb0
      simp only [Nat.zero_mul, Nat.add_zero] at q0 q1 q2 q3
      clear hb0 hr6 hBl hcB
      go_region_held3 (fun w' => w'.cell? ⟨B, o', none⟩ = some (.int .i64 ctl) ∧ w'.cell? ⟨B, o' + 1, none⟩ = some (.int .i64 dest) ∧ w'.cell? ⟨B, o' + 2, none⟩ = some (.int .i64 src) ∧ w'.cell? ⟨B, o' + 3, none⟩ = some (.slice A7 ds.length cap8) ∧ w'.cell? ⟨w.heap.size, 0, none⟩ = some (.int .i64 ctl) ∧ w'.cell? ⟨w.heap.size, 1, none⟩ = some (.int .i64 dest) ∧ w'.cell? ⟨w.heap.size, 2, none⟩ = some (.int .i64 src) ∧ w'.cell? ⟨w.heap.size, 3, none⟩ = some (.slice A ds.length cap)) (go_keep) (first
        | (go_at_call 10
           have htok := hE6
           clear htok
           have hal := (Ext.refl [] w6 c6).drew
           replace hE6 := hE6.trans (hal.mono (by simp))
           refine (HF.out _ c6).mono ?_
           rintro e w7 ⟨c7, rfl, he⟩
           have hE7 := hE6.trans (he.mono (by simp))
           replace he := hal.trans he
           replace q0 := he.cell q0 (by simp)
           replace q1 := he.cell q1 (by simp)
           replace q2 := he.cell q2 (by simp)
           replace q3 := he.cell q3 (by simp)
           replace k0 := he.cell k0 (by simp)
           replace k1 := he.cell k1 (by simp)
           replace k2 := he.cell k2 (by simp)
           replace k3 := he.cell k3 (by simp)
           replace hd := hd.ext he (by simp)
           replace hr7 := hr7.ext he (by simp)
           replace hs6 := hs6.ext he (by simp) (by simp)
           clear hE6 he hal)
        | (go_at_call 13
           have htok := hE7
           clear htok
           refine (same_calls ⟨ctl, dest, src, ds⟩ A7 A cap8 cap w7 c7 [7, 8] [0] hr7 hd).mono ?_
           rintro e w8 ⟨c8, rfl, he⟩
           have hE8 := hE7.trans (he.mono (by simp))
           replace q0 := he.cell q0 (by simp)
           replace q1 := he.cell q1 (by simp)
           replace q2 := he.cell q2 (by simp)
           replace q3 := he.cell q3 (by simp)
           replace k0 := he.cell k0 (by simp)
           replace k1 := he.cell k1 (by simp)
           replace k2 := he.cell k2 (by simp)
           replace k3 := he.cell k3 (by simp)
           replace hs6 := hs6.ext he (by simp) (by simp)
           clear hE7 he hr7 hd)
        | (go_at_call 17
           have htok := hE8
           clear htok
           refine (lost_calls g 30 _ _ w8 c8 [6] hs6).mono ?_
           rintro e w9 ⟨rfl, he⟩
           have hE9 := hE8.trans (he.mono (by simp))
           replace q0 := he.cell q0 (by simp)
           replace q1 := he.cell q1 (by simp)
           replace q2 := he.cell q2 (by simp)
           replace q3 := he.cell q3 (by simp)
           replace k0 := he.cell k0 (by simp)
           replace k1 := he.cell k1 (by simp)
           replace k2 := he.cell k2 (by simp)
           replace k3 := he.cell k3 (by simp)
           replace hs6 := hs6.ext he (by simp) (by simp)
           clear hE8 he)
        | (go_at_call 18
           have htok := hE9
           clear htok
           refine (pending_calls g 30 _ _ w9 c8 [6] hs6).mono ?_
           rintro e w10 ⟨rfl, he⟩
           have hE10 := hE9.trans (he.mono (by simp))
           replace q0 := he.cell q0 (by simp)
           replace q1 := he.cell q1 (by simp)
           replace q2 := he.cell q2 (by simp)
           replace q3 := he.cell q3 (by simp)
           replace k0 := he.cell k0 (by simp)
           replace k1 := he.cell k1 (by simp)
           replace k2 := he.cell k2 (by simp)
           replace k3 := he.cell k3 (by simp)
           clear hE9 he hs6))
      go_wp2
      go_ret
      exact ⟨rfl, hE10.below (by simp)⟩

theorem noise_walk (xs : List Int) (A1 : Option Addr) (cap1 : Nat) (ctl dest src : Int) (ds : List Int) (A : Option Addr) (cap : Nat) (w : World) (hx : Rd (kint .u8) w (fun _ => 0) [0] (.slice A1 xs.length cap1) xs) (hd : Rd (kint .u8) w (fun _ => 0) [0] (.slice A ds.length cap) ds) :
    Calls Try.prog 6 #[.slice A1 xs.length cap1, .agg #[.int .i64 ctl, .int .i64 dest, .int .i64 src, .slice A ds.length cap]] w (GoodB w) := by
  by_cases h1 : 2000 < xs.length
  · exact no_long xs A1 cap1 ctl dest src ds A cap w hx hd h1
  by_cases h2 : 6000 < ds.length
  · exact no_big xs A1 cap1 ctl dest src ds A cap w hx hd (by omega) h2
  by_cases hm : Fr.may ⟨ctl, dest, src, ds⟩ ∧ ds.length ≤ 250
  · obtain ⟨hmm, hl⟩ := hm
    obtain ⟨m1, m2, m3, m4, m5, m6⟩ := id hmm
    have hlen := enc_len ⟨ctl, dest, src, ds⟩
    exact no_ok xs A1 cap1 ctl dest src ds A cap (encB ⟨ctl, dest, src, ds⟩) w hx hd (by omega) (by omega) (fun w c hr => enc_ok ctl dest src ds A cap w c [0] 9 (by simp) hr m1 m2 m3 m4 m5 m6 hl)
      (by rw [hlen]; have := size_mod ds.length hl; simp only; omega) (fun h5 => by
        have := feed_noise ⟨ctl, dest, src, ds⟩ hmm hl (Rd.bytes8 hd) xs 0 (Rd.bytes8 hx) h5
        rw [List.nil_append, this, Int.zero_add])
  · exact no_bad xs A1 cap1 ctl dest src ds A cap w hx hd (by omega) (by omega) (fun w c hr => enc_bad ctl dest src ds A cap w c [0] 9 (by simp) hr hm)
end Go.Proofs.Ytkchcihglpcmiaa.Link
