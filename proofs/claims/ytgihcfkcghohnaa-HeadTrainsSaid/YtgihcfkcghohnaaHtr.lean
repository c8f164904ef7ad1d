/- The walk of HeadTrains: headers one behind the other are read one by one, to the end. -/
import Derived.Test.YtgihcfkcghohnaaBack
import Derived.Test.YtgihcfkcghohnaaBri
import Derived.Deep.RegionWith
import Derived.Laws.StructEq
namespace Go.Proofs.Ytgihcfkcghohnaa.Head
open Go.RowKit Go.Proofs.Ytgihcfkcghohnaa.Sk Go.Proofs.Ytgihcfkcghohnaa.Num Go.Proofs.Ytgihcfkcghohnaa.Wire

/-- Six numbers in a row. -/
def khdr : Kind Hdr where
  sz := 6
  K := fun _ _ _ h cs => cs = [.int .i64 h.g, .int .i64 h.v, .int .i64 h.q, .int .i64 h.f, .int .i64 h.l, .int .i64 h.c]
  len := fun h => by rw [h]; rfl
  ext := fun h _ _ => h
  mono := fun h _ => h
  one := fun h u hu => by rw [h] at hu; simp at hu; rcases hu with rfl | rfl | rfl | rfl | rfl | rfl <;> rfl
theorem khdr_any {w : World} {c : Col} {S S' : List Nat} {x : Hdr} {cs : List Value} (h : khdr.K w c S x cs) : khdr.K w c S' x cs := h
theorem rd6 {w : World} {c : Col} {S : List Nat} {B o n cap k : Nat} {xs : List Hdr} {h : Hdr} (hx : Rd khdr w c S (.slice (some ⟨B, o, none⟩) n cap) xs) (hk : xs[k]? = some h) :
    w.cell? ⟨B, o + k * 6, none⟩ = some (.int .i64 h.g) ∧ w.cell? ⟨B, o + k * 6 + 1, none⟩ = some (.int .i64 h.v) ∧ w.cell? ⟨B, o + k * 6 + 2, none⟩ = some (.int .i64 h.q) ∧ w.cell? ⟨B, o + k * 6 + 3, none⟩ = some (.int .i64 h.f) ∧ w.cell? ⟨B, o + k * 6 + 4, none⟩ = some (.int .i64 h.l) ∧ w.cell? ⟨B, o + k * 6 + 5, none⟩ = some (.int .i64 h.c) := by
  have hlt := (List.getElem?_eq_some_iff.1 hk).1
  obtain ⟨A', cap', e, _, _, h3⟩ := hx.form
  injection e with e1 _ _
  obtain ⟨b', o', e, _, _, hc⟩ := h3 (by omega)
  rw [← e1] at e
  injection e with e
  injection e with e2 e3 _
  subst e2 e3
  obtain ⟨cs, hK, hj⟩ := hc k h hk
  have hK' : cs = _ := hK
  subst hK'
  exact ⟨hj 0 _ rfl, hj 1 _ rfl, hj 2 _ rfl, hj 3 _ rfl, hj 4 _ rfl, hj 5 _ rfl⟩
theorem rd_ptr {w : World} {c : Col} {S : List Nat} {A : Option Addr} {n cap : Nat} {xs : List Hdr} (hx : Rd khdr w c S (.slice A n cap) xs) (hp : 0 < xs.length) : ∃ B o, A = some ⟨B, o, none⟩ := by
  obtain ⟨A', cap', e, _, _, h3⟩ := hx.form
  injection e with e1 _ _
  obtain ⟨b', o', e, _⟩ := h3 hp
  exact ⟨b', o', e1.trans e⟩
def goods (l : List Hdr) : List Hdr := l.filter fun h => decide h.may
def trainB (l : List Hdr) : List Int := l.flatMap Hdr.bytes
theorem goods_yes (l : List Hdr) (k : Nat) (h : Hdr) (hk : l[k]? = some h) (hm : h.may) : goods (l.take (k + 1)) = goods (l.take k) ++ [h] := by
  unfold goods
  rw [List.take_add_one, hk, List.filter_append]
  simp [hm]
theorem goods_no (l : List Hdr) (k : Nat) (h : Hdr) (hk : l[k]? = some h) (hm : ¬ h.may) : goods (l.take (k + 1)) = goods (l.take k) := by
  unfold goods
  rw [List.take_add_one, hk, List.filter_append]
  simp [hm]
theorem train_snoc (l : List Hdr) (h : Hdr) : trainB (l ++ [h]) = trainB l ++ h.bytes := by
  unfold trainB
  simp
theorem goods_len (l : List Hdr) : (goods l).length ≤ l.length := by unfold goods; exact List.length_filter_le _ _
theorem goods_may (l : List Hdr) (h : Hdr) (hm : h ∈ goods l) : h.may := by
  unfold goods at hm
  simpa using (List.mem_filter.1 hm).2
theorem bytes_len (h : Hdr) (hm : h.may) : h.bytes.length ≤ 100 := by
  have := h.bytes_length
  rcases widthV_cases h.q with hq | hq
  · rw [hm.1] at hq; cases hq
  · have hq1 := hq.2.2.1; have hq2 := hq.2.2.2.1; split at this <;> omega
theorem bytes_pos (h : Hdr) (hm : h.may) : 3 ≤ h.bytes.length := by
  have := h.bytes_length
  rcases widthV_cases h.q with hq | hq
  · rw [hm.1] at hq; cases hq
  · have hq1 := hq.2.2.1; have hq2 := hq.2.2.2.1; split at this <;> omega
theorem train_len : ∀ (l : List Hdr), (∀ h, h ∈ l → h.may) → (trainB l).length ≤ 100 * l.length
  | [], _ => by simp [trainB]
  | h :: l, hm => by
    have h1 := bytes_len h (hm h (by simp))
    have h2 := train_len l (fun x hx => hm x (List.mem_cons_of_mem _ hx))
    unfold trainB at *
    simp only [List.flatMap_cons, List.length_append, List.length_cons]
    omega
theorem gl (l : List Hdr) (k : Nat) (hl : l.length ≤ 300) : (trainB (goods (l.take k))).length ≤ 30000 ∧ (goods (l.take k)).length ≤ 300 := by
  have h1 := train_len (goods (l.take k)) (fun h hm => goods_may _ h hm)
  have h2 := goods_len (l.take k)
  rw [List.length_take] at h2
  omega
theorem train_cut (l : List Hdr) (k : Nat) (h : Hdr) (hk : l[k]? = some h) : trainB l = trainB (l.take k) ++ h.bytes ++ trainB (l.drop (k + 1)) := by
  have e : l = l.take k ++ h :: l.drop (k + 1) := by
    obtain ⟨hlt, rfl⟩ := List.getElem?_eq_some_iff.1 hk
    rw [← List.drop_eq_getElem_cons hlt, List.take_append_drop]
  conv => lhs; rw [e]
  unfold trainB
  simp
abbrev GoodB (w : World) : Ending → World → Prop := fun e w' => e = .returned (.bool true) ∧ Below w.heap.size w w'
theorem info_hdr : (Try.prog.info? 23).map (fun i => (i.zero, i.size, i.bytes)) = some (some (.agg #[.int .i64 0, .int .i64 0, .int .i64 0, .int .i64 0, .int .i64 0, .int .i64 0]), 6, 48) := by kernel_rfl

set_option maxHeartbeats 1600000 in
theorem trains_long (l : List Hdr) (A : Option Addr) (cap : Nat) (w : World) (hl : 300 < l.length) :
    Calls Try.prog 6 #[.slice A l.length cap] w (GoodB w) := by
  have d1 : decide ((300 : Int) < l.length) = true := decide_eq_true (by omega)
  clear hl
  have hF := fun w c => first_calls w c
  have HF := Lib.hid hF
  clear hF
  have hE0 := Ext.refl [] w (fun _ => 0)
  go_enter Try.func6, Try.ntmps6
  go_wp2_with (first
    | (go_at_call 7
       have htok := hE0
       clear htok
       refine (HF.out w (fun _ => 0)).mono ?_
       rintro e w1 ⟨c1, rfl, he⟩
       have hE1 := hE0.trans he
       clear hE0 he)
    | (go_at_call 7
       have htok := hE1
       clear htok
       refine (HF.out w1 c1).mono ?_
       rintro e w2 ⟨c2, rfl, he⟩
       have hE2 := hE1.trans he
       clear hE1 he))
  go_ret
  exact ⟨rfl, hE2.belowAll⟩

set_option maxRecDepth 100000 in
set_option maxHeartbeats 3200000 in
theorem trains_main (l : List Hdr) (A : Option Addr) (cap : Nat) (w : World) (hl : l.length ≤ 300) (hx : Rd khdr w (fun _ => 0) [0] (.slice A l.length cap) l) :
    Calls Try.prog 6 #[.slice A l.length cap] w (GoodB w) := by
  have d1 : decide ((300 : Int) < l.length) = false := decide_eq_false (by omega)
  have hF := fun w c => first_calls w c
  have HF := Lib.hid hF
  clear hF
  have hE0 := Ext.refl [] w (fun _ => 0)
  go_enter Try.func6, Try.ntmps6
  go_wp2_with (first
    | (go_at_call 7
       have htok := hE0
       clear htok
       refine (HF.out w (fun _ => 0)).mono ?_
       rintro e w1 ⟨c1, rfl, he⟩
       have hE1 := hE0.trans he
       replace hx := hx.ext he (by simp)
       clear hE0 he))
  go_loopw [3, 4, 5] (fun b inn i wr => ∃ (k : Nat) (c : Col), k ≤ l.length ∧ i = .int .i64 k ∧ Own u8 5 wr c 2 [] w.heap.size b (trainB (goods (l.take k))) ∧ Own khdr 23 wr c 3 [] w.heap.size inn (goods (l.take k)) ∧ Rd khdr wr c [0] (.slice A l.length cap) l ∧ Ext [] w (fun _ => 0) wr c) (fun _ _ i _ => l.length - (intOf i).toNat)
  case atStart => exact ⟨0, _, Nat.zero_le _, rfl, Own.nil _ _ _ _ _ _ _, Own.nil _ _ _ _ _ _ _, hx, hE1⟩
  case round =>
    clear hx hE1
    obtain ⟨k, c, hk, rfl, hb, hi, hx, hE⟩ := hrel
    have hbl := gl l k hl
    by_cases hlt : k < l.length
    · obtain ⟨B, o', cap', h, cs, e1, hcap, hlk, hK, hcell⟩ := hx.at k (by omega) (by omega)
      injection e1 with e1 _ e3
      subst e1
      subst e3
      have hK' : cs = _ := hK
      subst hK'
      simp only [Int.toNat_natCast] at hlk hcell
      have hcB : c B = 0 := by
        obtain ⟨_, _, e3, _, _, h3⟩ := hx.form
        obtain ⟨b3, o3, e4, _, h4, _⟩ := h3 (by omega)
        injection e3 with e3 _ _
        rw [← e3] at e4
        injection e4 with e4
        injection e4 with e4 _ _
        subst e4
        simpa using h4
      have hBl : B < wr.heap.size := World.block_lt_of_cell? wr _ (hcell 0 _ rfl)
      obtain ⟨A1, cap1, rfl⟩ := hb.slice
      obtain ⟨A2, cap2, rfl⟩ := hi.slice
      by_cases hm : h.may
      · have eg := goods_yes l k h hlk hm
        have et := train_snoc (goods (l.take k)) h
        rw [← eg] at et
        have hbh := bytes_len h hm
        have HPr := Lib.hid (fun w c => print_ok h w c 5 hm)
        unfold PrintOk at HPr
        have HG := Lib.hid (And.intro eg et)
        clear eg et hlk
        simp only [Hdr.val] at HPr
        have qa0 : wr.cell? ⟨B, o' + k * 6, none⟩ = some (.int .i64 h.g) := hcell 0 _ rfl
        have qa1 : wr.cell? ⟨B, o' + k * 6 + 1, none⟩ = some (.int .i64 h.v) := hcell 1 _ rfl
        have qa2 : wr.cell? ⟨B, o' + k * 6 + 2, none⟩ = some (.int .i64 h.q) := hcell 2 _ rfl
        have qa3 : wr.cell? ⟨B, o' + k * 6 + 3, none⟩ = some (.int .i64 h.f) := hcell 3 _ rfl
        have qa4 : wr.cell? ⟨B, o' + k * 6 + 4, none⟩ = some (.int .i64 h.l) := hcell 4 _ rfl
        have qa5 : wr.cell? ⟨B, o' + k * 6 + 5, none⟩ = some (.int .i64 h.c) := hcell 5 _ rfl
        go_wp2_with (first
          | (go_at_call 8
             have htok := hE
             clear htok
             refine (HPr.out wr c).mono ?_
             rintro e w2 ⟨Ap, capp, c2, rfl, ho, he⟩
             have hE2 := hE.trans he
             replace hb := hb.ext he (by simp) (by simp)
             replace hi := hi.ext he (by simp) (by simp)
             replace hx := hx.ext he (by simp)
             have hp : Rd u8 w2 c2 [5] (.slice Ap h.bytes.length capp) h.bytes := ho.rd (by simp) (by simp)
             replace hcell := fun j u hj => he.cell (hcell j u hj) (by rw [hcB]; simp)
             replace hcB : c2 B = 0 := by rw [he.col B hBl]; exact hcB
             replace hBl := Nat.lt_of_lt_of_le hBl he.size
             clear ho he hE qa0 qa1 qa2 qa3 qa4 qa5)
          | (at_builtin
             have htok := hE2
             clear htok
             refine own_append u8 (by decide) rfl _ _ 24 5 (.int .u8 0) 1 rfl Try.underlying24 info_u8 rfl (by decide) rfl rfl (hE2.size) hb (by simp) hp (fun x cs _ hK => kint_any hK) (by omega) ?_
             intro vv w3 hb3 he hg
             have hE3 := hE2.later (Nat.le_refl _) (hb.below hg (hE2.size)) he.col
             generalize cx c2 w2.heap.size 2 = c3 at *
             replace hi := hi.ext he (by simp) (by simp)
             replace hx := hx.ext he (by simp)
             replace hcell := fun j u hj => he.cell (hcell j u hj) (by rw [hcB]; simp)
             replace hcB : c3 B = 0 := by rw [he.col B hBl]; exact hcB
             replace hBl := Nat.lt_of_lt_of_le hBl he.size
             obtain ⟨A3, cap3, rfl⟩ := hb3.slice
             have qb0 : w3.cell? ⟨B, o' + k * 6, none⟩ = some (.int .i64 h.g) := hcell 0 _ rfl
             have qb1 : w3.cell? ⟨B, o' + k * 6 + 1, none⟩ = some (.int .i64 h.v) := hcell 1 _ rfl
             have qb2 : w3.cell? ⟨B, o' + k * 6 + 2, none⟩ = some (.int .i64 h.q) := hcell 2 _ rfl
             have qb3 : w3.cell? ⟨B, o' + k * 6 + 3, none⟩ = some (.int .i64 h.f) := hcell 3 _ rfl
             have qb4 : w3.cell? ⟨B, o' + k * 6 + 4, none⟩ = some (.int .i64 h.l) := hcell 4 _ rfl
             have qb5 : w3.cell? ⟨B, o' + k * 6 + 5, none⟩ = some (.int .i64 h.c) := hcell 5 _ rfl
             clear hb hp hg he hE2)
          | (at_builtin
             have htok := hE3
             clear htok
             have hal := Ext.alloc [] w3 c3 (.cells #[.int .i64 h.g, .int .i64 h.v, .int .i64 h.q, .int .i64 h.f, .int .i64 h.l, .int .i64 h.c] 23) 6
             have hlit : Own khdr 23 (w3.alloc (.cells #[.int .i64 h.g, .int .i64 h.v, .int .i64 h.q, .int .i64 h.f, .int .i64 h.l, .int .i64 h.c] 23)) (cx c3 w3.heap.size 6) 6 [] w3.heap.size (.slice (some ⟨w3.heap.size, 0, none⟩) 1 1) [h] := Own.made khdr 23 w3 c3 6 [] [h] [.int .i64 h.g, .int .i64 h.v, .int .i64 h.q, .int .i64 h.f, .int .i64 h.l, .int .i64 h.c] rfl (by simp) (fun j x hj => by match j, hj with | 0, hj => simp at hj; subst hj; rfl)
             replace hb3 := hb3.ext hal (by simp) (by simp)
             replace hi := hi.ext hal (by simp) (by simp)
             replace hx := hx.ext hal (by simp)
             replace hE3 := hE3.trans hal
             have hsz : ((goods (l.take k)).length + ([h] : List Hdr).length) * 48 ≤ 140737488355328 := by simp only [List.length_cons, List.length_nil]; omega
             generalize cx c3 w3.heap.size 6 = d3 at *
             generalize hw4 : w3.alloc (.cells #[.int .i64 h.g, .int .i64 h.v, .int .i64 h.q, .int .i64 h.f, .int .i64 h.l, .int .i64 h.c] 23) = w4 at *
             refine own_append khdr (by decide) rfl _ _ 40 23 (.agg #[.int .i64 0, .int .i64 0, .int .i64 0, .int .i64 0, .int .i64 0, .int .i64 0]) 48 rfl Try.underlying40 info_hdr rfl (by decide) rfl rfl (hE3.size) hi (by simp) (hlit.rd (S' := [6]) (by simp) (by simp)) (fun x cs _ hK => khdr_any hK) hsz ?_
             intro vv w5 hi5 he hg
             have hE5 := hE3.later (Nat.le_refl _) (hi.below hg (hE3.size)) he.col
             generalize cx d3 w4.heap.size 3 = c5 at *
             replace hb3 := hb3.ext he (by simp) (by simp)
             replace hx := hx.ext he (by simp)
             obtain ⟨A5, cap5, rfl⟩ := hi5.slice
             clear hi hlit hg he hE3 hal hw4 hcell hcB hBl qb0 qb1 qb2 qb3 qb4 qb5))
        go_roundw
        case rel => exact ⟨k + 1, c5, by omega, by go_num, by rw [HG.out.2, ← List.length_append]; exact hb3, by rw [HG.out.1]; have := hi5; simp only [List.length_append, List.length_cons, List.length_nil] at this; exact this, hx, hE5⟩
        case measure => simp [intOf]; omega
      · have eg := goods_no l k h hlk hm
        have HPr := Lib.hid (fun w c => print_bad h w c 5 hm)
        have HG := Lib.hid eg
        clear eg hlk
        simp only [Hdr.val] at HPr
        have qa0 : wr.cell? ⟨B, o' + k * 6, none⟩ = some (.int .i64 h.g) := hcell 0 _ rfl
        have qa1 : wr.cell? ⟨B, o' + k * 6 + 1, none⟩ = some (.int .i64 h.v) := hcell 1 _ rfl
        have qa2 : wr.cell? ⟨B, o' + k * 6 + 2, none⟩ = some (.int .i64 h.q) := hcell 2 _ rfl
        have qa3 : wr.cell? ⟨B, o' + k * 6 + 3, none⟩ = some (.int .i64 h.f) := hcell 3 _ rfl
        have qa4 : wr.cell? ⟨B, o' + k * 6 + 4, none⟩ = some (.int .i64 h.l) := hcell 4 _ rfl
        have qa5 : wr.cell? ⟨B, o' + k * 6 + 5, none⟩ = some (.int .i64 h.c) := hcell 5 _ rfl
        go_wp2_with (first
          | (go_at_call 8
             have htok := hE
             clear htok
             refine (HPr.out wr c).mono ?_
             rintro e w2 ⟨vp, c2, rfl, ⟨gp, vep, rfl, hxp⟩, he⟩
             have hE2 := hE.trans he
             replace hb := hb.ext he (by simp) (by simp)
             replace hi := hi.ext he (by simp) (by simp)
             replace hx := hx.ext he (by simp)
             clear hxp he hE qa0 qa1 qa2 qa3 qa4 qa5 hcell hcB hBl))
        go_roundw
        case rel => exact ⟨k + 1, c2, by omega, by go_num, by rw [HG.out]; exact hb, by rw [HG.out]; exact hi, hx, hE2⟩
        case measure => simp [intOf]; omega
    · have ek : k = l.length := by omega
      subst ek
      rw [List.take_length] at hb hi hbl
      clear hx hlt hk
      generalize hgs : goods l = gs at *
      have hms : ∀ h, h ∈ gs → h.may := fun h hh => goods_may l h (by rw [hgs]; exact hh)
      generalize hbs : trainB gs = bs at *
      obtain ⟨A1, cap1, rfl⟩ := hb.slice
      obtain ⟨A2, cap2, rfl⟩ := hi.slice
      have hb' := hb.rd (S' := [2]) (by simp) (by simp)
      have hi' := hi.rd (S' := [3]) (by simp) (by simp)
      clear hb hi
      go_wp2
      go_loopw [8, 9] (fun a i wr => ∃ (k : Nat) (c : Col), k ≤ gs.length ∧ i = .int .i64 k ∧ a = .int .i64 ((trainB (gs.take k)).length : Nat) ∧ Rd u8 wr c [2] (.slice A1 bs.length cap1) bs ∧ Rd khdr wr c [3] (.slice A2 gs.length cap2) gs ∧ Ext [] w (fun _ => 0) wr c) (fun _ i _ => gs.length - (intOf i).toNat)
      case atStart => exact ⟨0, c, Nat.zero_le _, rfl, rfl, hb', hi', hE⟩
      case round =>
        clear hb' hi' hE
        obtain ⟨k, c, hk, rfl, rfl, hb, hi, hE⟩ := hrel
        by_cases hlt : k < gs.length
        · obtain ⟨h, hlk⟩ : ∃ h, gs[k]? = some h := ⟨_, List.getElem?_eq_getElem hlt⟩
          have hm := hms h (List.mem_of_getElem? hlk)
          obtain ⟨B, o', rfl⟩ := rd_ptr hi (by omega)
          have et : (trainB (gs.take (k + 1))).length = (trainB (gs.take k)).length + h.bytes.length := by rw [List.take_add_one, hlk]; simp only [Option.toList_some, train_snoc, List.length_append]
          have hbp := bytes_pos h hm
          have hbh := bytes_len h hm
          have hps : parseS bs ((trainB (gs.take k)).length : Nat) = .ok (h, ((trainB (gs.take k)).length : Nat) + h.bytes.length) := by rw [← hbs, train_cut gs k h hlk]; exact parse_back h hm _ _
          have hta : (trainB (gs.take k)).length ≤ 30000 := by have := train_cut gs k h hlk; rw [hbs] at this; rw [this] at hbl; simp only [List.length_append] at hbl; omega
          generalize (trainB (gs.take k)).length = ta at *
          have HQ : Hid (∀ w c, Rd u8 w c [2] (.slice A1 bs.length cap1) bs → Calls Try.prog 11 #[.slice A1 bs.length cap1, .int .i64 ta] w fun e w' => ∃ c', e = .returned (.tuple #[.agg #[.int .i64 h.g, .int .i64 h.v, .int .i64 h.q, .int .i64 h.f, .int .i64 h.l, .int .i64 h.c], .int .i64 (ta + h.bytes.length), .nilIface]) ∧ Ext [] w c w' c') := fun w c hr => by
            have := parse_calls bs ta _ w c [2] 5 hr (by omega) (by omega)
            unfold ParsePost at this
            rw [hps] at this
            exact this
          have HPl : Hid (∀ w c, Calls Try.prog 12 #[.agg #[.int .i64 h.g, .int .i64 h.v, .int .i64 h.q, .int .i64 h.f, .int .i64 h.l, .int .i64 h.c]] w fun e w' => ∃ c', e = .returned (.agg #[.int .i64 h.g, .int .i64 h.v, .int .i64 h.q, .int .i64 h.f, .int .i64 h.l, .int .i64 h.c]) ∧ Ext [] w c w' c') := fun w c => plain_calls h w c 0
          have HT := Lib.hid et
          have hd : decide ((ta : Int) + h.bytes.length ≤ ta) = false := decide_eq_false (by omega)
          clear et hps hm hms
          go_wp2_with (first
            | (go_at_call 11
               have htok := hE
               clear htok
               refine (HQ.out wr c hb).mono ?_
               rintro e w1 ⟨c1, rfl, he⟩
               have hE1 := hE.trans he
               replace hb := hb.ext he (by simp)
               replace hi := hi.ext he (by simp)
               clear hE he))
          have hal := Ext.alloc [] w1 c1 (.cells #[.int .i64 h.g, .int .i64 h.v, .int .i64 h.q, .int .i64 h.f, .int .i64 h.l, .int .i64 h.c] 23) 0
          have hxx := Bx.new w1 c1 0 #[.int .i64 h.g, .int .i64 h.v, .int .i64 h.q, .int .i64 h.f, .int .i64 h.l, .int .i64 h.c] 23
          replace hb := hb.ext hal (by simp)
          replace hi := hi.ext hal (by simp)
          replace hE1 := hE1.trans hal
          clear hal
          generalize cx c1 w1.heap.size 0 = d2 at *
          generalize w1.alloc (.cells #[.int .i64 h.g, .int .i64 h.v, .int .i64 h.q, .int .i64 h.f, .int .i64 h.l, .int .i64 h.c] 23) = v2 at *
          obtain ⟨kx0, kx1, kx2, kx3, kx4, kx5⟩ := hxx.six
          obtain ⟨ky0, ky1, ky2, ky3, ky4, ky5⟩ := rd6 hi hlk
          go_region_held3 (fun w' => w'.cell? ⟨w1.heap.size, 0, none⟩ = some (.int .i64 h.g) ∧ w'.cell? ⟨w1.heap.size, 1, none⟩ = some (.int .i64 h.v) ∧ w'.cell? ⟨w1.heap.size, 2, none⟩ = some (.int .i64 h.q) ∧ w'.cell? ⟨w1.heap.size, 3, none⟩ = some (.int .i64 h.f) ∧ w'.cell? ⟨w1.heap.size, 4, none⟩ = some (.int .i64 h.l) ∧ w'.cell? ⟨w1.heap.size, 5, none⟩ = some (.int .i64 h.c) ∧ w'.cell? ⟨B, o' + k * 6, none⟩ = some (.int .i64 h.g) ∧ w'.cell? ⟨B, o' + k * 6 + 1, none⟩ = some (.int .i64 h.v) ∧ w'.cell? ⟨B, o' + k * 6 + 2, none⟩ = some (.int .i64 h.q) ∧ w'.cell? ⟨B, o' + k * 6 + 3, none⟩ = some (.int .i64 h.f) ∧ w'.cell? ⟨B, o' + k * 6 + 4, none⟩ = some (.int .i64 h.l) ∧ w'.cell? ⟨B, o' + k * 6 + 5, none⟩ = some (.int .i64 h.c)) (go_keep) (first
            | (go_at_call 12
               have htok := hE1
               clear htok
               have hal := (Ext.refl [] v2 d2).drew
               replace hb := hb.ext hal (by simp)
               replace hi := hi.ext hal (by simp)
               replace hxx := hxx.ext hal (by simp)
               replace hE1 := hE1.trans hal
               clear hal
               generalize v2.drew = v3 at *
               clear kx0 kx1 kx2 kx3 kx4 kx5 ky0 ky1 ky2 ky3 ky4 ky5
               refine (HPl.out v3 d2).mono ?_
               rintro e w4 ⟨c4, rfl, he⟩
               have hE4 := hE1.trans he
               replace hb := hb.ext he (by simp)
               replace hi := hi.ext he (by simp)
               replace hxx := hxx.ext he (by simp)
               obtain ⟨kx0, kx1, kx2, kx3, kx4, kx5⟩ := hxx.six
               obtain ⟨ky0, ky1, ky2, ky3, ky4, ky5⟩ := rd6 hi hlk
               clear hE1 he)
            | (go_at_call 12
               have htok := hE4
               clear htok
               clear kx0 kx1 kx2 kx3 kx4 kx5 ky0 ky1 ky2 ky3 ky4 ky5
               refine (HPl.out w4 c4).mono ?_
               rintro e w5 ⟨c5, rfl, he⟩
               have hE5 := hE4.trans he
               replace hb := hb.ext he (by simp)
               replace hi := hi.ext he (by simp)
               replace hxx := hxx.ext he (by simp)
               obtain ⟨kx0, kx1, kx2, kx3, kx4, kx5⟩ := hxx.six
               obtain ⟨ky0, ky1, ky2, ky3, ky4, ky5⟩ := rd6 hi hlk
               clear hE4 he))
          go_wp2
          go_roundw
          case rel => exact ⟨k + 1, c5, by omega, by go_num, by rw [HT.out]; rfl, hb, hi, hE5⟩
          case measure => simp [intOf]; omega
        · have ek : k = gs.length := by omega
          subst ek
          rw [List.take_length, hbs]
          have HQ : Hid (∀ w c, Rd u8 w c [2] (.slice A1 bs.length cap1) bs → Calls Try.prog 11 #[.slice A1 bs.length cap1, .int .i64 bs.length] w fun e w' => ∃ v' c', e = .returned (.tuple #[.agg #[.int .i64 0, .int .i64 0, .int .i64 0, .int .i64 0, .int .i64 0, .int .i64 0], .int .i64 0, v']) ∧ EK w' c' [5] (.fail ⟨#[104, 101, 97, 100]⟩ bs.length (.code 2)) v' ∧ Ext [] w c w' c') := fun w c hr => by
            have := parse_few bs bs.length _ w c [2] 5 hr (.inr (by omega)) (by omega)
            exact this
          clear hi hk hlt hbl hms
          go_wp2_with (first
            | (go_at_call 11
               have htok := hE
               clear htok
               refine (HQ.out wr c hb).mono ?_
               rintro e w1 ⟨ve, c1, rfl, ⟨ge, vee, rfl, hxe⟩, he⟩
               have hE1 := hE.trans he
               replace hb := hb.ext he (by simp)
               clear hxe
               clear hE he)
            | (go_at_call 7
               have htok := hE1
               clear htok
               have hal := Ext.alloc [] w1 c1 (.cells #[.int .i64 0, .int .i64 0, .int .i64 0, .int .i64 0, .int .i64 0, .int .i64 0] 23) 0
               have hzz := Bx.new w1 c1 0 #[.int .i64 0, .int .i64 0, .int .i64 0, .int .i64 0, .int .i64 0, .int .i64 0] 23
               replace hb := hb.ext hal (by simp)
               replace hE1 := hE1.trans hal
               clear hal
               generalize cx c1 w1.heap.size 0 = d2 at *
               generalize w1.alloc (.cells #[.int .i64 0, .int .i64 0, .int .i64 0, .int .i64 0, .int .i64 0, .int .i64 0] 23) = v2 at *
               refine (HF.out v2 d2).mono ?_
               rintro e w3 ⟨c3, rfl, he⟩
               have hE3 := hE1.trans he
               clear hzz
               replace hb := hb.ext he (by simp)
               clear hE1 he))
          go_ret
          exact ⟨rfl, hE3.belowAll⟩
end Go.Proofs.Ytgihcfkcghohnaa.Head
