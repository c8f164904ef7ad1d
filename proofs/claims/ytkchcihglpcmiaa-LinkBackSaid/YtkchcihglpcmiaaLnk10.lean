/- Chapter 14: Same; what the chapter's examples fix. -/
import Derived.Test.YtkchcihglpcmiaaLnk9
import Derived.Test.YtkchcihglpcmiaaLpure
import Derived.Deep.RegionHeld3
namespace Go.Proofs.Ytkchcihglpcmiaa.Link
open Go.RowKit Go.Proofs.Ytkchcihglpcmiaa.Sk Go.Proofs.Ytkchcihglpcmiaa.Num Go.Proofs.Ytkchcihglpcmiaa.Wire Go.Proofs.Ytkchcihglpcmiaa.PLk
open Go.Proofs.YtkchcihglpcmiaaW.PrintWords Go.Proofs.YtkchcihglpcmiaaW.PrintLast Go.Proofs.YtkchcihglpcmiaaW.PrintMore

theorem same_calls (f : Fr) (A A' : Option Addr) (cap cap' : Nat) (w : World) (c : Col) (S S' : List Nat) (hx : Rd (kint .u8) w c S (.slice A f.data.length cap) f.data) (hy : Rd (kint .u8) w c S' (.slice A' f.data.length cap') f.data) :
    Calls Try.prog 13 #[.agg #[.int .i64 f.ctl, .int .i64 f.dest, .int .i64 f.src, .slice A f.data.length cap], .agg #[.int .i64 f.ctl, .int .i64 f.dest, .int .i64 f.src, .slice A' f.data.length cap']] w fun e w' => ∃ c', e = .returned (.bool true) ∧ Ext [] w c w' c' := by
  obtain ⟨_, _, e, hc⟩ := hx.slice
  injection e with _ _ e
  obtain ⟨_, _, e', hc'⟩ := hy.slice
  injection e' with _ _ e'
  refine (link_Same.calls f.ctl f.dest f.src A cap f.data f.ctl f.dest f.src A' cap' f.data true w (kd_of_rd hx) (by omega) (kd_of_rd hy) (by omega) ?_).mono ?_
  · unfold link_Same.f bytes_Equal.f
    rw [if_pos rfl, if_pos rfl, if_pos rfl, str_eq _ _ (Rd.bytes8 hx) (Rd.bytes8 hx)]
    simp
  · rintro e w' ⟨rfl, hb⟩
    exact ⟨_, rfl, Ext.of_below hb [] 0⟩
/-- A colour that nothing has. -/
def freshC (c : Col) (n : Nat) : Nat := (List.range n).foldr (fun i a => max (c i) a) 0 + 30
theorem fresh_ne (c : Col) (n k : Nat) (h : k < n) : c k ≠ freshC c n := by
  have key : ∀ (l : List Nat), k ∈ l → c k ≤ l.foldr (fun i a => max (c i) a) 0 := by
    intro l
    induction l with
    | nil => intro h; cases h
    | cons x l ih =>
      intro hk
      simp only [List.foldr_cons]
      rcases List.mem_cons.1 hk with rfl | hk
      · exact Nat.le_max_left _ _
      · exact Nat.le_trans (ih hk) (Nat.le_max_right _ _)
  have := key (List.range n) (List.mem_range.2 h)
  unfold freshC
  omega
theorem fresh_ge (c : Col) (n : Nat) : 30 ≤ freshC c n := by unfold freshC; omega
theorem Ext.free {w w' : World} {c c' : Col} {κ : Nat} (h : Ext [κ] w c w' c') (hn : ∀ k, k < w.heap.size → c k ≠ κ) : Ext [] w c w' c' :=
  ⟨h.os, h.tape, h.output, h.size, h.col, fun k hk _ => h.keep k hk (by simpa using hn k hk)⟩
/-- A frame that is told: its cells. -/
theorem fr_cells {w : World} {c : Col} {S : List Nat} {v : Value} {fs : List Fr} {f : Fr} {i : Nat} (h : Rd kfr w c S v fs) (hi : fs[i]? = some f) :
    ∃ B o cap A7 cap7, v = .slice (some ⟨B, o, none⟩) fs.length cap ∧ Rd (kint .u8) w c S (.slice A7 f.data.length cap7) f.data ∧ B < w.heap.size ∧ c B ∈ S ∧
      w.cell? ⟨B, o + i * 4, none⟩ = some (.int .i64 f.ctl) ∧ w.cell? ⟨B, o + i * 4 + 1, none⟩ = some (.int .i64 f.dest) ∧ w.cell? ⟨B, o + i * 4 + 2, none⟩ = some (.int .i64 f.src) ∧ w.cell? ⟨B, o + i * 4 + 3, none⟩ = some (.slice A7 f.data.length cap7) := by
  obtain ⟨A', cap', e, h1, h2, h3⟩ := h.form
  have hlt := (List.getElem?_eq_some_iff.1 hi).1
  obtain ⟨B, o, rfl, hB, hcB, hx⟩ := h3 (by omega)
  obtain ⟨cs, ⟨v7, hv, hr⟩, hc⟩ := hx i f hi
  obtain ⟨A7, cap7, rfl, _⟩ := hr.slice
  subst hv
  exact ⟨B, o, cap', A7, cap7, e, hr, hB, hcB, hc 0 _ rfl, hc 1 _ rfl, hc 2 _ rfl, hc 3 _ rfl⟩
theorem ext_own {w0 w w' : World} {c0 c : Col} {κ : Nat} {M : List Nat} {β : Nat} {v : Value} {xs : List Int} {c' : Col} {d : Nat} (hE : Ext M w0 c0 w c) (hw : w0.heap.size ≤ β) (ho : Own (kint .u8) d w c κ [] β v xs) (hg : w.grownBy w' v.ownBlock) (hb : β ≤ w.heap.size) (hc : ∀ k, k < w.heap.size → c' k = c k) : Ext M w0 c0 w' c' :=
  hE.later hw (ho.below hg hb) hc
abbrev F0 : Fr := ⟨192, 1, 2, []⟩
theorem F0_may : F0.may := by unfold Fr.may; decide
theorem F0_8 : (encB F0).take 8 = [5, 100, 5, 192, 1, 0, 2, 0] := by
  have h : (encB F0).take 8 = ((encB F0).take 10).take 8 := by rw [List.take_take]; rfl
  rw [h, enc_take]
  have : (hdrV F0 ++ crcB (hdrV F0)).take 8 = hdrV F0 := List.take_left' rfl
  rw [this]
  rfl
theorem F0_str : strOfNums [5, 100, 5, 192, 1, 0, 2, 0] = ⟨#[5, 100, 5, 192, 1, 0, 2, 0]⟩ := by kernel_rfl
theorem F0_len : (encB F0).length = 10 := enc_len F0
theorem F0_feed : feedF (([] : List Int) ++ ([5] ++ encB F0)) 0 = ([F0], [], 1) := feed_first F0 F0_may (by decide) (fun _ h => by simp at h)
theorem F0_enc (w : World) (c : Col) : Calls Try.prog 11 #[.agg #[.int .i64 192, .int .i64 1, .int .i64 2, .slice none 0 0]] w (EncOk (encB F0) w c 10) :=
  enc_ok 192 1 2 [] none 0 w c [] 10 (by simp) (Rd.nil _ _ _ _) (by decide) (by decide) (by decide) (by decide) (by decide) (by decide) (by decide)
set_option maxRecDepth 100000 in
set_option maxHeartbeats 6400000 in
theorem first_calls (w : World) (c : Col) : Calls Try.prog 10 #[] w fun e w' => ∃ c', e = .returned (.bool true) ∧ Ext [] w c w' c' := by
  have hκ30 := fresh_ge c w.heap.size
  have hκf := fun k hk => fresh_ne c w.heap.size k hk
  generalize freshC c w.heap.size = κ at *
  have hal := Ext.alloc [κ] w c (.cells #[.int .i64 192, .int .i64 1, .int .i64 2, .slice none 0 0] 24) 9
  have hf := Bx.new w c 9 #[.int .i64 192, .int .i64 1, .int .i64 2, .slice none 0 0] 24
  have HF := Lib.hid F0_feed
  have HL := Lib.hid F0_len
  have H8 := Lib.hid F0_8
  have HE := Lib.hid F0_enc
  generalize encB F0 = bs at *
  have hE0 := hal
  clear hal
  go_enter Try.func10, Try.ntmps10
  go_wp2_with (first
    | (go_at_call 11
       have htok := hE0
       clear htok
       have hQ := HE.out (w.alloc (.cells #[.int .i64 192, .int .i64 1, .int .i64 2, .slice none 0 0] 24)) (cx c w.heap.size 9)
       unfold EncOk at hQ
       rw [HL.out] at hQ
       refine hQ.mono ?_
       rintro e w1 ⟨A1, cap1, c1, rfl, ho, he⟩
       have hE1 := hE0.trans (he.mono (by simp))
       replace hf := hf.ext he (by simp)
       have hr : Rd (kint .u8) w1 c1 [10] (.slice A1 10 cap1) bs := ho.rd (by simp) (by simp)
       clear hE0 he hQ ho)
    | (go_at_call 15
       have htok := hE1
       clear htok
       refine (new_calls w1 c1 κ [6]).mono ?_
       rintro e w2 ⟨c2, g, rfl, hg, hs, he⟩
       have hE2 := hE1.trans (he.mono (by simp))
       replace hf := hf.ext he (by simp)
       replace hr := hr.ext he (by simp)
       have hcc : 10 ≤ cap1 := by
         obtain ⟨_, _, e1, hcc⟩ := hr.slice
         injection e1 with _ e2 e3
         omega
       obtain ⟨A3, hcut, hrd⟩ := Sk.cut_h (P := Try.prog) (kint .u8) 22 5 _ _ Try.underlying22 info_u8 A1 10 cap1 .i64 (8 : Int) 8 rfl (by decide) hcc
       have hr8 := hrd w2 c2 [10] bs hr
       rw [H8.out] at hr8
       have hcv : (convert 22 9 (.slice A3 8 cap1)).run Try.prog w2 = .ok (.string ⟨#[5, 100, 5, 192, 1, 0, 2, 0]⟩) w2 := by rw [← F0_str]; exact Kd.C_string (P := Try.prog) (A := A3) (c := cap1) Try.underlying22 Try.underlying5 Try.underlying9 (kd_of_rd hr8)
       clear hE1 he hr8 hrd hcc)
    | (at_builtin
       have htok := hE2
       clear htok
       have hal := Ext.alloc [] w2 c2 (.cells #[.int .u8 5] 5) 11
       have hlit : Own (kint .u8) 5 (w2.alloc (.cells #[.int .u8 5] 5)) (cx c2 w2.heap.size 11) 11 [] w2.heap.size (.slice (some ⟨w2.heap.size, 0, none⟩) 1 1) [5] := Own.ints .u8 5 w2 c2 11 [] [5] (by decide) (by decide)
       replace hf := hf.ext hal (by simp)
       replace hr := hr.ext hal (by simp)
       replace hs := hs.ext hal (by simp) (by simp)
       have hE2s := hE2.size
       replace hE2 := hE2.trans (hal.mono (by simp))
       have hb2 : w2.heap.size ≤ (w2.alloc (.cells #[.int .u8 5] 5)).heap.size := by simp
       have hsz : (([5] : List Int).length + bs.length) * 1 ≤ 140737488355328 := by rw [HL.out]; decide
       have hw2 : w.heap.size ≤ w2.heap.size := hE2s
       generalize cx c2 w2.heap.size 11 = d2 at *
       generalize w2.alloc (.cells #[.int .u8 5] 5) = v2 at *
       have hr' : Rd (kint .u8) v2 d2 [10] (.slice A1 10 cap1) bs := hr
       refine own_append (kint .u8) (by decide) rfl _ _ 22 5 (.int .u8 0) 1 rfl Try.underlying22 info_u8 rfl (by decide) rfl rfl hb2 hlit (by simp) hr' (fun x cs _ hK => kint_any hK) hsz ?_
       intro vv w3 ho3 he hb
       have hE3 := ext_own hE2 hw2 hlit hb hb2 he.col
       replace hf := hf.ext he (by simp)
       replace hs := hs.ext he (by intro h; simp at h; omega) (by simp)
       have hx3 := ho3.rd (S' := [11]) (by simp) (by simp)
       generalize cx d2 v2.heap.size 11 = c3 at *
       obtain ⟨A4, cap4, rfl⟩ := ho3.slice
       have hal3 := ho3
       clear hE2 he hb hlit hr hr' hsz ho3 hal3 hal)
    | (go_at_call 16
       have htok := hE3
       clear htok
       rw [show (([5] : List Int) ++ bs).length = bs.length + 1 by simp] at hx3
       have hQ := feed_calls g κ [] ([5] ++ bs) 0 _ w3 c3 [6] [11] (by omega) (by simp) hs hx3 (by rw [List.length_append, HL.out]; decide) (by omega)
       unfold FeedP at hQ
       rw [HF.out] at hQ
       refine hQ.mono ?_
       rintro e w4 ⟨v4, c4, rfl, ho4, hs4, he⟩
       have hE4 := hE3.trans he
       replace hf := hf.ext he (by intro h; simp at h; omega)
       have hr4 := ho4.rd (S' := [7, 8]) (by simp) (by simp)
       clear hE3 he hQ hs hx3 ho4))
  obtain ⟨B, o, cap5, A7, cap7, rfl, hr7, hBl, hcB, q0, q1, q2, q3⟩ := fr_cells (i := 0) hr4 rfl
  obtain ⟨k0, k1, k2, k3⟩ := (Link.Bx.four hf).1
  simp only [Nat.zero_mul, Nat.add_zero] at q0 q1 q2 q3
  replace q0 : w4.cell? ⟨B, o, none⟩ = some (.int .i64 192) := q0
  replace q1 : w4.cell? ⟨B, o + 1, none⟩ = some (.int .i64 1) := q1
  replace q2 : w4.cell? ⟨B, o + 2, none⟩ = some (.int .i64 2) := q2
  replace q3 : w4.cell? ⟨B, o + 3, none⟩ = some (.slice A7 0 cap7) := q3
  replace hr7 : Rd (kint .u8) w4 c4 [7, 8] (.slice A7 0 cap7) [] := hr7
  clear hf hr4 hBl hcB hcut hcv
  go_region_held3 (fun w' => w'.cell? ⟨B, o, none⟩ = some (.int .i64 192) ∧ w'.cell? ⟨B, o + 1, none⟩ = some (.int .i64 1) ∧ w'.cell? ⟨B, o + 2, none⟩ = some (.int .i64 2) ∧ w'.cell? ⟨B, o + 3, none⟩ = some (.slice A7 0 cap7) ∧ w'.cell? ⟨w.heap.size, 0, none⟩ = some (.int .i64 192) ∧ w'.cell? ⟨w.heap.size, 1, none⟩ = some (.int .i64 1) ∧ w'.cell? ⟨w.heap.size, 2, none⟩ = some (.int .i64 2) ∧ w'.cell? ⟨w.heap.size, 3, none⟩ = some (.slice none 0 0)) (go_keep) (first
    | (go_at_call 13
       have htok := hE4
       clear htok
       have hal := (Ext.refl [] w4 c4).drew
       replace hE4 := hE4.trans (hal.mono (by simp))
       replace hs4 := hs4.ext hal (by simp) (by simp)
       replace hr7 := hr7.ext hal (by simp)
       replace q0 := hal.cell q0 (by simp)
       replace q1 := hal.cell q1 (by simp)
       replace q2 := hal.cell q2 (by simp)
       replace q3 := hal.cell q3 (by simp)
       replace k0 := hal.cell k0 (by simp)
       replace k1 := hal.cell k1 (by simp)
       replace k2 := hal.cell k2 (by simp)
       replace k3 := hal.cell k3 (by simp)
       clear hal
       generalize w4.drew = v5 at *
       refine (same_calls F0 A7 none cap7 0 v5 c4 [7, 8] [] hr7 (Rd.nil _ _ _ _)).mono ?_
       rintro e w5 ⟨c5, rfl, he⟩
       have hE5 := hE4.trans (he.mono (by simp))
       replace hs4 := hs4.ext he (by simp) (by simp)
       replace q0 := he.cell q0 (by simp)
       replace q1 := he.cell q1 (by simp)
       replace q2 := he.cell q2 (by simp)
       replace q3 := he.cell q3 (by simp)
       replace k0 := he.cell k0 (by simp)
       replace k1 := he.cell k1 (by simp)
       replace k2 := he.cell k2 (by simp)
       replace k3 := he.cell k3 (by simp)
       clear hE4 he hr7)
    | (go_at_call 17
       have htok := hE5
       clear htok
       refine (lost_calls g κ [] 1 w5 c5 [6] hs4).mono ?_
       rintro e w6 ⟨rfl, he⟩
       have hE6 := hE5.trans (he.mono (by simp))
       replace hs4 := hs4.ext he (by simp) (by simp)
       replace q0 := he.cell q0 (by simp)
       replace q1 := he.cell q1 (by simp)
       replace q2 := he.cell q2 (by simp)
       replace q3 := he.cell q3 (by simp)
       replace k0 := he.cell k0 (by simp)
       replace k1 := he.cell k1 (by simp)
       replace k2 := he.cell k2 (by simp)
       replace k3 := he.cell k3 (by simp)
       clear hE5 he)
    | (go_at_call 18
       have htok := hE6
       clear htok
       refine (pending_calls g κ [] 1 w6 c5 [6] hs4).mono ?_
       rintro e w7 ⟨rfl, he⟩
       have hE7 := hE6.trans (he.mono (by simp))
       replace q0 := he.cell q0 (by simp)
       replace q1 := he.cell q1 (by simp)
       replace q2 := he.cell q2 (by simp)
       replace q3 := he.cell q3 (by simp)
       replace k0 := he.cell k0 (by simp)
       replace k1 := he.cell k1 (by simp)
       replace k2 := he.cell k2 (by simp)
       replace k3 := he.cell k3 (by simp)
       clear hE6 he hs4))
  go_wp2
  go_ret
  exact ⟨_, rfl, Ext.free hE7 hκf⟩
end Go.Proofs.Ytkchcihglpcmiaa.Link
