/- Chapter 14: Feed. -/
import Derived.Test.YtkchcihglpcmiaaLnk8
namespace Go.Proofs.Ytkchcihglpcmiaa.Link
open Go.RowKit Go.Proofs.Ytkchcihglpcmiaa.Sk Go.Proofs.Ytkchcihglpcmiaa.Num Go.Proofs.Ytkchcihglpcmiaa.Wire Go.Proofs.Ytkchcihglpcmiaa.PLk
open Go.Proofs.YtkchcihglpcmiaaW.PrintWords Go.Proofs.YtkchcihglpcmiaaW.PrintLast Go.Proofs.YtkchcihglpcmiaaW.PrintMore

/-- How many bytes are pending. -/
def pendN (w : World) (g : Nat) : Nat := match w.cell? ⟨g, 0, none⟩ with
  | some (.slice _ n _) => n
  | _ => 0
theorem pendN_of {w : World} {g n cap : Nat} {A : Option Addr} (h : w.cell? ⟨g, 0, none⟩ = some (.slice A n cap)) : pendN w g = n := by
  unfold pendN; rw [h]
theorem feed_wait {f : Nat} {b : List Int} {lost : Int} (h : (lookV b).1 = 0) : feedV f b lost = ([], b, lost) := by
  cases f with
  | zero => rfl
  | succ f => rw [feedV, if_pos h]
theorem feed_lose {f : Nat} {b : List Int} {lost : Int} (h : (lookV b).1 = 1) : feedV (f + 1) b lost = feedV f (b.drop 1) (lost + 1) := by
  rw [feedV, if_neg (by rw [h]; decide), if_pos h]
theorem feed_whole {f : Nat} {b : List Int} {lost : Int} (h : (lookV b).1 = 2) : feedV (f + 1) b lost = (frOf (b.take (lookV b).2) :: (feedV f (b.drop (lookV b).2) lost).1, (feedV f (b.drop (lookV b).2) lost).2) := by
  rw [feedV, if_neg (by rw [h]; decide), if_neg (by rw [h]; decide)]
def FeedP (g κ : Nat) (b : List Int) (lost : Int) (w : World) (c : Col) (e : Ending) (w' : World) : Prop :=
  ∃ v c', e = .returned v ∧ Own kfr 24 w' c' 8 [7] w.heap.size v (feedF b lost).1 ∧ Scn w' c' κ g [6] (feedF b lost).2.1 (feedF b lost).2.2 ∧ Ext [κ] w c w' c'
set_option maxRecDepth 100000 in
set_option maxHeartbeats 6400000 in
theorem feed_calls (g κ : Nat) (b xs : List Int) (lost : Int) (V : Value) (w : World) (c : Col) (S S' : List Nat) (hκ : κ ≠ 6 ∧ κ ≠ 7 ∧ κ ≠ 8) (h6 : 6 ∉ S') (hs : Scn w c κ g S b lost) (hx : Rd (kint .u8) w c S' V xs) (hl : b.length + xs.length ≤ 100000) (hlost : 0 ≤ lost ∧ lost ≤ 100000000) :
    Calls Try.prog 16 #[.pointer (some ⟨g, 0, none⟩), V] w (FeedP g κ (b ++ xs) lost w c) := by
  obtain ⟨v, hb0, hr⟩ := hs
  obtain ⟨A, cap, rfl, hcap⟩ := hr.slice
  obtain ⟨A1, cap1, rfl, hcap1⟩ := hx.slice
  obtain ⟨hκ6, hκ7, hκ8⟩ := hκ
  have hE0 := Ext.refl [κ] w c
  have s0 := hb0.cell 0
  simp at s0
  have hgl : g < w.heap.size := blkLt hb0.1
  go_enter Try.func16, Try.ntmps16
  go_wp2_with (first
    | (go_at_call 36
       have htok := hE0
       clear htok
       refine (clone_calls b _ w c S 6 hr (by omega)).mono ?_
       rintro e w1 ⟨A2, cap2, c1, rfl, ho, he⟩
       have hE1 := hE0.trans (he.mono (by simp))
       replace hb0 := hb0.ext he (by simp)
       replace hx := hx.ext he (by simp)
       clear hE0 he hr s0)
    | (at_builtin
       have htok := hE1
       clear htok
       have hsz : (b.length + xs.length) * 1 ≤ 140737488355328 := by omega
       refine own_append (kint .u8) (by decide) rfl _ _ 22 5 (.int .u8 0) 1 rfl Try.underlying22 info_u8 rfl (by decide) rfl rfl (hE1.size) ho (by simp) hx (fun x cs _ hK => kint_any hK) hsz ?_
       intro vv w2 ho2 he hb
       have hE2 := hE1.later (Nat.le_refl _) (ho.below hb (hE1.size)) he.col
       replace hb0 := hb0.ext he (by simpa using hκ6)
       obtain ⟨A3, cap3, rfl⟩ := ho2.slice
       simp only [List.length_append] at ho2
       have s1 := hb0.free 0
       have s2 := hb0.cell 0
       simp at s2
       clear hE1 he hb ho hx hsz))
  obtain ⟨hbS, hES, hBS⟩ := hb0.set 0 (.slice A3 (b.length + xs.length) cap3)
  have hE3 := hE2.trans hES
  have hrS := (ho2.rd (S' := [6]) (by simp) (by simp)).ext hES (by intro k hk hk2; simp at hk hk2; omega)
  simp at hbS
  have h8 : Bytes8 (b ++ xs) := Rd.bytes8 hrS
  clear hb0 hE2 hES hBS ho2 s1 s2
  generalize w2.setCell ⟨g, 0, none⟩ (.slice A3 (b.length + xs.length) cap3) = w3 at *
  have hscn : Scn w3 _ κ g [6] (b ++ xs) lost := ⟨_, hbS, hrS⟩
  clear hbS hrS
  have hlen : (b ++ xs).length ≤ 100000 := by rw [List.length_append]; exact hl
  generalize hfull : b ++ xs = full at *
  clear hfull
  go_wp2
  go_loopw [5] (fun o wr => ∃ (f : Nat) (c' : Col) (cur : List Int) (lst : Int) (done : List Fr), feedF full lost = (done ++ (feedV f cur lst).1, (feedV f cur lst).2) ∧ cur.length < f ∧ Bytes8 cur ∧ 0 ≤ lst ∧ lst + cur.length ≤ lost + full.length ∧ done.length + cur.length ≤ full.length ∧ Own kfr 24 wr c' 8 [7] w.heap.size o done ∧ Scn wr c' κ g [6] cur lst ∧ Ext [κ] w c wr c') (fun _ wr => pendN wr g)
  case atStart => exact ⟨full.length + 1, _, full, lost, [], rfl, by omega, h8, hlost.1, by omega, by simp, Own.nil _ _ _ _ _ _ _, hscn, hE3⟩
  case round =>
    clear hscn hE3 h8
    obtain ⟨f, c', cur, lst, done, hd, hf, h8, hl0, hl1, hdl, ho, ⟨vs, hbx, hrx⟩, hE⟩ := hrel
    obtain ⟨A4, cap4, rfl, hcap4⟩ := hrx.slice
    obtain ⟨A5, cap5, rfl⟩ := ho.slice
    have s0 := hbx.cell 0
    simp at s0
    have hpn := pendN_of s0
    clear s0
    obtain ⟨f, rfl⟩ : ∃ f', f = f' + 1 := ⟨f - 1, by omega⟩
    have hQ0 := look_calls g κ cur A4 cap4 lst wr c' [6] hbx hrx (by omega) (by simp)
    unfold LookP at hQ0
    rcases look_kind cur with hk | hk | hk
    · rw [hk] at hQ0
      rw [feed_wait hk] at hd
      generalize (lookV cur).2 = n0 at *
      have HQ := Lib.hid hQ0
      clear hQ0 hk
      go_wp2_with (first
        | (go_at_call 37
           refine HQ.out.mono ?_
           rintro e w1 ⟨c1, rfl, he⟩
           have hE1 := hE.trans (he.mono (by simp))
           replace ho := ho.ext he (by simp) (by simp)
           replace hbx := hbx.ext he (by simp)
           replace hrx := hrx.ext he (by simp)
           clear hE he HQ))
      go_ret
      refine ⟨_, c1, rfl, ?_, ?_, hE1⟩
      · rw [hd]; simpa using ho
      · rw [hd]; exact ⟨_, hbx, hrx⟩
    · have hn1 : 1 ≤ cur.length := look_nil cur (by rw [hk]; decide)
      rw [hk] at hQ0
      have hd2 : feedF full lost = (done ++ (feedV f (cur.drop 1) (lst + 1)).1, (feedV f (cur.drop 1) (lst + 1)).2) := by rw [hd, feed_lose hk]
      generalize (lookV cur).2 = n0 at *
      have HQ := Lib.hid hQ0
      have HD := Lib.hid hd2
      clear hQ0 hk hd hd2
      obtain ⟨m, hm⟩ : ∃ m, cur.length = m + 1 := ⟨cur.length - 1, by omega⟩
      obtain ⟨A6, hcut, hrd⟩ := Sk.cut_l (P := Try.prog) (kint .u8) 22 5 _ _ Try.underlying22 info_u8 A4 cur.length cap4 .i64 (1 : Int) m (by omega) (by omega)
      have HR := Lib.hid hrd
      have HM := Lib.hid hm
      have hw1 : wrap64 (lst + 1) = lst + 1 := by unfold wrap64; omega
      clear hrd hm
      go_wp2_with (first
        | (go_at_call 37
           refine HQ.out.mono ?_
           rintro e w1 ⟨c1, rfl, he⟩
           have hE1 := hE.trans (he.mono (by simp))
           replace ho := ho.ext he (by simp) (by simp)
           replace hbx := hbx.ext he (by simp)
           replace hrx := hrx.ext he (by simp)
           have s0 := hbx.cell 0
           have s1 := hbx.cell 1
           have f0 := hbx.free 0
           have f1 := hbx.free 1
           simp at s0 s1
           clear hE he HQ))
      obtain ⟨hb1, hX1, _⟩ := hbx.set 1 (.int .i64 (lst + 1))
      obtain ⟨hb2, hX2, _⟩ := hb1.set 0 (.slice A6 m (cap4 - 1))
      simp at hb2
      have hX := hX1.trans hX2
      have hM7 : ∀ k, k ∈ [7] → k ∉ [κ] := by intro k hk hk2; simp at hk hk2; omega
      have hM6 : ∀ k, k ∈ [6] → k ∉ [κ] := by intro k hk hk2; simp at hk hk2; omega
      have hr2 := (HR.out _ _ [6] cur hrx).ext hX hM6
      have ho2 := ho.ext hX (by intro h; simp at h; omega) hM7
      have hp2 := hb2.cell 0
      simp at hp2
      go_roundw
      case rel => exact ⟨f, c1, cur.drop 1, lst + 1, done, HD.out, by rw [List.length_drop]; omega, h8.drop 1, by omega, by rw [List.length_drop]; have := HM.out; omega, by rw [List.length_drop]; omega, ho2, ⟨_, hb2, hr2⟩, hE1.trans hX⟩
      case measure => rw [hpn, pendN_of hp2]; have := HM.out; omega
    · obtain ⟨hn1, hn2, hn3, fr, hdec⟩ := look_whole cur h8 hk
      rw [hk] at hQ0
      have hfo : frOf (cur.take (lookV cur).2) = fr := by unfold frOf; rw [hdec]; rfl
      have hd2 : feedF full lost = (done ++ [fr] ++ (feedV f (cur.drop (lookV cur).2) lst).1, (feedV f (cur.drop (lookV cur).2) lst).2) := by rw [hd, feed_whole hk, hfo, List.append_assoc]; rfl
      generalize (lookV cur).2 = n0 at *
      have HQ := Lib.hid hQ0
      have HD := Lib.hid hd2
      clear hQ0 hk hd hd2 hfo
      obtain ⟨m, hm⟩ : ∃ m, cur.length = m + n0 := ⟨cur.length - n0, by omega⟩
      obtain ⟨A6, hcut, hrd⟩ := Sk.cut_l (P := Try.prog) (kint .u8) 22 5 _ _ Try.underlying22 info_u8 A4 cur.length cap4 .i64 (n0 : Int) m (by omega) (by omega)
      obtain ⟨A8, hcut8, hrd8⟩ := Sk.cut_h (P := Try.prog) (kint .u8) 22 5 _ _ Try.underlying22 info_u8 A4 cur.length cap4 .i64 (n0 : Int) n0 rfl (by omega) hcap4
      simp only [Int.toNat_natCast] at hcut hrd
      have ht : (cur.take n0).length = n0 := by rw [List.length_take]; omega
      have HR := Lib.hid hrd
      have HR8 := Lib.hid hrd8
      have HM := Lib.hid hm
      have HT := Lib.hid ht
      have HN := Lib.hid hn3
      clear hrd hm hrd8 ht hn3
      go_wp2_with (first
        | (go_at_call 37
           refine HQ.out.mono ?_
           rintro e w1 ⟨c1, rfl, he⟩
           have hE1 := hE.trans (he.mono (by simp))
           replace ho := ho.ext he (by simp) (by simp)
           replace hbx := hbx.ext he (by simp)
           replace hrx := hrx.ext he (by simp)
           have s0 := hbx.cell 0
           simp at s0
           clear hE he HQ)
        | (go_at_call 12
           have htok := hE1
           clear htok
           have hr8 := HR8.out w1 c1 [6] cur hrx
           have hQ := decode_calls (cur.take n0) A8 cap4 w1 c1 [6] (by rw [HT.out]; exact hr8) (by rw [HT.out]; have := HN.out; omega) (by simp)
           unfold DecP at hQ
           rw [hdec, HT.out] at hQ
           refine hQ.mono ?_
           rintro e w2 ⟨v7, c2, rfl, ho7, he⟩
           have hE2 := hE1.trans (he.mono (by simp))
           replace ho := ho.ext he (by simp) (by simp)
           replace hbx := hbx.ext he (by simp)
           replace hrx := hrx.ext he (by simp)
           obtain ⟨A7, cap7, rfl⟩ := ho7.slice
           have hr7 : Rd (kint .u8) w2 c2 [7] (.slice A7 fr.data.length cap7) fr.data := ho7.rd (by simp) (by simp)
           clear hE1 he hQ hr8 ho7 s0)
        | (at_builtin
           have htok := hE2
           clear htok
           have hal := Ext.alloc [] w2 c2 (.cells #[.int .i64 fr.ctl, .int .i64 fr.dest, .int .i64 fr.src, .slice A7 fr.data.length cap7] 24) 9
           replace hE2 := hE2.trans (hal.mono (by simp))
           replace ho := ho.ext hal (by simp) (by simp)
           replace hbx := hbx.ext hal (by simp)
           replace hrx := hrx.ext hal (by simp)
           replace hr7 := hr7.ext hal (by simp)
           generalize hd1 : cx c2 w2.heap.size 9 = d1 at *
           have hsv : (w2.alloc (.cells #[.int .i64 fr.ctl, .int .i64 fr.dest, .int .i64 fr.src, .slice A7 fr.data.length cap7] 24)).heap.size = w2.heap.size + 1 := World.size_alloc _ _
           generalize w2.alloc (.cells #[.int .i64 fr.ctl, .int .i64 fr.dest, .int .i64 fr.src, .slice A7 fr.data.length cap7] 24) = v1 at *
           have hal2 := Ext.alloc [] v1 d1 (.cells #[.int .i64 fr.ctl, .int .i64 fr.dest, .int .i64 fr.src, .slice A7 fr.data.length cap7] 24) 7
           have hlit : Own kfr 24 (v1.alloc (.cells #[.int .i64 fr.ctl, .int .i64 fr.dest, .int .i64 fr.src, .slice A7 fr.data.length cap7] 24)) (cx d1 v1.heap.size 7) 7 [7] v1.heap.size (.slice (some ⟨v1.heap.size, 0, none⟩) 1 1) [fr] := Own.made kfr 24 v1 d1 7 [7] [fr] [.int .i64 fr.ctl, .int .i64 fr.dest, .int .i64 fr.src, .slice A7 fr.data.length cap7] rfl (by simp) (fun j x hj => by
             match j, hj with
             | 0, hj => simp at hj; subst hj; exact ⟨_, rfl, hr7.ext hal2 (by simp)⟩)
           replace hE2 := hE2.trans (hal2.mono (by simp))
           replace ho := ho.ext hal2 (by simp) (by simp)
           replace hbx := hbx.ext hal2 (by simp)
           replace hrx := hrx.ext hal2 (by simp)
           generalize cx d1 v1.heap.size 7 = d2 at *
           generalize v1.alloc (.cells #[.int .i64 fr.ctl, .int .i64 fr.dest, .int .i64 fr.src, .slice A7 fr.data.length cap7] 24) = v2 at *
           rw [hsv] at hlit
           have hrl : Rd kfr _ _ [7] _ [fr] := hlit.rd (S' := [7]) (by simp) (by simp)
           have hsz : (done.length + ([fr] : List Fr).length) * 48 ≤ 140737488355328 := by simp only [List.length_cons, List.length_nil]; omega
           have hgl2 : w.heap.size ≤ v2.heap.size := hE2.size
           refine own_append kfr (by decide) rfl _ _ 36 24 (.agg #[.int .i64 0, .int .i64 0, .int .i64 0, .slice none 0 0]) 48 rfl Try.underlying36 info_fr rfl (by decide) rfl rfl hgl2 ho (by simp) hrl (fun x cs _ hK => hK) hsz ?_
           intro vv w3 ho3 he hb
           have hE3 := hE2.later (Nat.le_refl _) (ho.below hb hgl2) he.col
           replace hbx := hbx.ext he (by intro h; simp at h; omega)
           replace hrx := hrx.ext he (by simp)
           generalize cx d2 v2.heap.size 8 = c3 at *
           obtain ⟨A9, cap9, rfl⟩ := ho3.slice
           simp only [List.length_append, List.length_cons, List.length_nil] at ho3
           have s0 := hbx.cell 0
           have f0 := hbx.free 0
           simp at s0
           clear hE2 he hb ho hsz hgl2 hrl hlit hal hal2 hr7))
      obtain ⟨hb2, hX, _⟩ := hbx.set 0 (.slice A6 m (cap4 - n0))
      simp at hb2
      have hM7 : ∀ k, k ∈ [7] → k ∉ [κ] := by intro k hk hk2; simp at hk hk2; omega
      have hM6 : ∀ k, k ∈ [6] → k ∉ [κ] := by intro k hk hk2; simp at hk hk2; omega
      have hr2 := (HR.out _ _ [6] cur hrx).ext hX hM6
      have ho2 := ho3.ext hX (by intro h; simp at h; omega) hM7
      have hp2 := hb2.cell 0
      simp at hp2
      refine ⟨⟨f, c3, cur.drop n0, lst, done ++ [fr], HD.out, by rw [List.length_drop]; omega, h8.drop n0, hl0, by rw [List.length_drop]; have := HM.out; omega, by rw [List.length_drop, List.length_append, List.length_cons, List.length_nil]; omega, ho2, ⟨_, hb2, hr2⟩, hE3.trans hX⟩, ?_⟩
      rw [hpn, pendN_of hp2]; have := HM.out; omega
end Go.Proofs.Ytkchcihglpcmiaa.Link
