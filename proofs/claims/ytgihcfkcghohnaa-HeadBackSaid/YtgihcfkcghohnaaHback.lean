/- The walk of HeadBack: a header that is printed is read as itself; what is read is printed just so. -/
import Derived.Test.YtgihcfkcghohnaaBack
import Derived.Test.YtgihcfkcghohnaaBri
import Derived.Deep.RegionWith
import Derived.Laws.StructEq
namespace Go.Proofs.Ytgihcfkcghohnaa.Head
open Go.RowKit Go.Proofs.Ytgihcfkcghohnaa.Sk Go.Proofs.Ytgihcfkcghohnaa.Num Go.Proofs.Ytgihcfkcghohnaa.Wire

theorem bytes_len (h : Hdr) (hm : h.may) : h.bytes.length ≤ 100 := by
  have := h.bytes_length
  rcases widthV_cases h.q with hq | hq
  · rw [hm.1] at hq; cases hq
  · have hq1 := hq.2.2.1; have hq2 := hq.2.2.2.1; split at this <;> omega
abbrev GoodB (w : World) : Ending → World → Prop := fun e w' => e = .returned (.bool true) ∧ Below w.heap.size w w'
def CopyT : Prop := ∀ (xs : List Int) (v : Value) (w : World) (c : Col) (S : List Nat) (κ : Nat), Rd u8 w c S v xs → xs.length ≤ 140737488355328 →
    Calls Try.prog 10 #[v] w fun e w' => ∃ A cap c', e = .returned (.slice A xs.length cap) ∧ Own u8 5 w' c' κ [] w.heap.size (.slice A xs.length cap) xs ∧ Ext [] w c w' c'

set_option maxRecDepth 100000 in
set_option maxHeartbeats 1600000 in
theorem hbA (g v q f l n : Int) (xs ys : List Int) (A1 A2 : Option Addr) (c1 c2 : Nat) (at' : Int) (w : World) (hl : 6000 < xs.length) :
    Calls Try.prog 3 #[.agg #[.int .i64 g, .int .i64 v, .int .i64 q, .int .i64 f, .int .i64 l, .int .i64 n], .slice A1 xs.length c1, .slice A2 ys.length c2, .int .i64 at'] w (GoodB w) := by
  have d1 : decide ((6000 : Int) < xs.length) = true := decide_eq_true (by omega)
  clear hl
  have hF := fun w c => first_calls w c
  have HF := Lib.hid hF
  clear hF
  have hE0 := Ext.refl [] w (fun _ => 0)
  go_enter Try.func3, Try.ntmps3
  go_wp2_with (first
    | (go_at_call 7
       have htok := hE0
       clear htok
       have hal := Ext.alloc [] w (fun _ => 0) (.cells #[.int .i64 g, .int .i64 v, .int .i64 q, .int .i64 f, .int .i64 l, .int .i64 n] 23) 0
       have hh := Bx.new w (fun _ => 0) 0 #[.int .i64 g, .int .i64 v, .int .i64 q, .int .i64 f, .int .i64 l, .int .i64 n] 23
       replace hE0 := hE0.trans hal
       clear hal
       generalize cx (fun _ => 0) w.heap.size 0 = d1 at *
       generalize w.alloc (.cells #[.int .i64 g, .int .i64 v, .int .i64 q, .int .i64 f, .int .i64 l, .int .i64 n] 23) = v1 at *
       refine (HF.out v1 d1).mono ?_
       rintro e w2 ⟨c2, rfl, he⟩
       have hE2 := hE0.trans he
       clear hh
       clear hE0 he)
    | (go_at_call 7
       have htok := hE2
       clear htok
       refine (HF.out w2 c2).mono ?_
       rintro e w3 ⟨c3, rfl, he⟩
       have hE3 := hE2.trans he
       clear hE2 he))
  go_ret
  exact ⟨rfl, hE3.belowAll⟩
set_option maxRecDepth 100000 in
set_option maxHeartbeats 1600000 in
theorem hbB (g v q f l n : Int) (xs ys : List Int) (A1 A2 : Option Addr) (c1 c2 : Nat) (at' : Int) (w : World) (hl : xs.length ≤ 6000 ∧ 6000 < ys.length) :
    Calls Try.prog 3 #[.agg #[.int .i64 g, .int .i64 v, .int .i64 q, .int .i64 f, .int .i64 l, .int .i64 n], .slice A1 xs.length c1, .slice A2 ys.length c2, .int .i64 at'] w (GoodB w) := by
  have d1 : decide ((6000 : Int) < xs.length) = false := decide_eq_false (by omega)
  have d2 : decide ((6000 : Int) < ys.length) = true := decide_eq_true (by omega)
  clear hl
  have hF := fun w c => first_calls w c
  have HF := Lib.hid hF
  clear hF
  have hE0 := Ext.refl [] w (fun _ => 0)
  go_enter Try.func3, Try.ntmps3
  go_wp2_with (first
    | (go_at_call 7
       have htok := hE0
       clear htok
       have hal := Ext.alloc [] w (fun _ => 0) (.cells #[.int .i64 g, .int .i64 v, .int .i64 q, .int .i64 f, .int .i64 l, .int .i64 n] 23) 0
       have hh := Bx.new w (fun _ => 0) 0 #[.int .i64 g, .int .i64 v, .int .i64 q, .int .i64 f, .int .i64 l, .int .i64 n] 23
       replace hE0 := hE0.trans hal
       clear hal
       generalize cx (fun _ => 0) w.heap.size 0 = d1 at *
       generalize w.alloc (.cells #[.int .i64 g, .int .i64 v, .int .i64 q, .int .i64 f, .int .i64 l, .int .i64 n] 23) = v1 at *
       refine (HF.out v1 d1).mono ?_
       rintro e w2 ⟨c2, rfl, he⟩
       have hE2 := hE0.trans he
       clear hh
       clear hE0 he)
    | (go_at_call 7
       have htok := hE2
       clear htok
       refine (HF.out w2 c2).mono ?_
       rintro e w3 ⟨c3, rfl, he⟩
       have hE3 := hE2.trans he
       clear hE2 he))
  go_ret
  exact ⟨rfl, hE3.belowAll⟩
set_option maxRecDepth 100000 in
set_option maxHeartbeats 3200000 in
theorem hbm11 (g v q f l n yg yv yq yf yl yn : Int) (xs ys bs bs2 : List Int) (A1 A2 : Option Addr) (cap1 cap2 : Nat) (at' : Int) (w : World) (hl : xs.length ≤ 6000 ∧ ys.length ≤ 6000)
    (hx : Rd u8 w (fun _ => 0) [0] (.slice A1 xs.length cap1) xs) (hy : Rd u8 w (fun _ => 0) [0] (.slice A2 ys.length cap2) ys)
    (HP : Hid (∀ w c, Calls Try.prog 8 #[.agg #[.int .i64 g, .int .i64 v, .int .i64 q, .int .i64 f, .int .i64 l, .int .i64 n]] w fun e w' => ∃ A cap c', e = .returned (.tuple #[.slice A bs.length cap, .nilIface]) ∧ Own u8 5 w' c' 1 [] w.heap.size (.slice A bs.length cap) bs ∧ Ext [] w c w' c'))
    (HM : Hid (∀ w c, Calls Try.prog 9 #[.agg #[.int .i64 g, .int .i64 v, .int .i64 q, .int .i64 f, .int .i64 l, .int .i64 n]] w fun e w' => ∃ c', e = .returned (.bool true) ∧ Ext [] w c w' c'))
    (hbs : bs.length ≤ 100)
    (HQ1 : Hid (∀ w c V, Rd u8 w c [2] V (xs ++ bs ++ ys) → Calls Try.prog 11 #[V, .int .i64 xs.length] w fun e w' => ∃ c', e = .returned (.tuple #[.agg #[.int .i64 g, .int .i64 v, .int .i64 q, .int .i64 f, .int .i64 l, .int .i64 n], .int .i64 (xs.length + bs.length : Int), .nilIface]) ∧ Ext [] w c w' c'))
    (HPl : Hid (∀ w c, Calls Try.prog 12 #[.agg #[.int .i64 g, .int .i64 v, .int .i64 q, .int .i64 f, .int .i64 l, .int .i64 n]] w fun e w' => ∃ c', e = .returned (.agg #[.int .i64 g, .int .i64 v, .int .i64 q, .int .i64 f, .int .i64 l, .int .i64 n]) ∧ Ext [] w c w' c'))
    (HQ2 : Hid (∀ w c, Rd u8 w c [0] (.slice A2 ys.length cap2) ys → Calls Try.prog 11 #[.slice A2 ys.length cap2, .int .i64 at'] w fun e w' => ∃ c', e = .returned (.tuple #[.agg #[.int .i64 yg, .int .i64 yv, .int .i64 yq, .int .i64 yf, .int .i64 yl, .int .i64 yn], .int .i64 (at' + bs2.length), .nilIface]) ∧ Ext [] w c w' c'))
    (HP2 : Hid (∀ w c, Calls Try.prog 8 #[.agg #[.int .i64 yg, .int .i64 yv, .int .i64 yq, .int .i64 yf, .int .i64 yl, .int .i64 yn]] w fun e w' => ∃ A cap c', e = .returned (.tuple #[.slice A bs2.length cap, .nilIface]) ∧ Own u8 5 w' c' 1 [] w.heap.size (.slice A bs2.length cap) bs2 ∧ Ext [] w c w' c'))
    (hb2 : 0 ≤ at' ∧ at' + bs2.length ≤ ys.length)
    (HB2 : Hid ((ys.drop at'.toNat).take bs2.length = bs2)) :
    Calls Try.prog 3 #[.agg #[.int .i64 g, .int .i64 v, .int .i64 q, .int .i64 f, .int .i64 l, .int .i64 n], .slice A1 xs.length cap1, .slice A2 ys.length cap2, .int .i64 at'] w (GoodB w) := by
  have d1 : decide ((6000 : Int) < xs.length) = false := decide_eq_false (by omega)
  have d2 : decide ((6000 : Int) < ys.length) = false := decide_eq_false (by omega)
  have hF := fun w c => first_calls w c
  have HF := Lib.hid hF
  clear hF
  have hE0 := Ext.refl [] w (fun _ => 0)
  have d3 : decide ((ys.length : Int) < at' + bs2.length) = false := decide_eq_false (by omega)
  have d4 : decide (at' + (bs2.length : Int) ≤ ys.length) = true := decide_eq_true (by omega)
  have hC := cut_lh (P := Try.prog) u8 24 5 _ _ Try.underlying24 info_u8 A2 ys.length cap2 .i64 .i64 at' (at' + bs2.length) bs2.length hb2.1 (by omega) hb2.2 (by obtain ⟨_, _, e, h⟩ := hy.slice; injection e with _ _ e; omega)
  have HC := Lib.hid hC
  clear hC
  go_enter Try.func3, Try.ntmps3
  go_wp2_with (first
    | (go_at_call 7
       have htok := hE0
       clear htok
       have hal := Ext.alloc [] w (fun _ => 0) (.cells #[.int .i64 g, .int .i64 v, .int .i64 q, .int .i64 f, .int .i64 l, .int .i64 n] 23) 0
       have hh := Bx.new w (fun _ => 0) 0 #[.int .i64 g, .int .i64 v, .int .i64 q, .int .i64 f, .int .i64 l, .int .i64 n] 23
       replace hx := hx.ext hal (by simp)
       replace hy := hy.ext hal (by simp)
       replace hE0 := hE0.trans hal
       clear hal
       generalize cx (fun _ => 0) w.heap.size 0 = d1 at *
       generalize w.alloc (.cells #[.int .i64 g, .int .i64 v, .int .i64 q, .int .i64 f, .int .i64 l, .int .i64 n] 23) = v1 at *
       refine (HF.out v1 d1).mono ?_
       rintro e w2 ⟨c2, rfl, he⟩
       have hE2 := hE0.trans he
       replace hx := hx.ext he (by simp)
       replace hy := hy.ext he (by simp)
       replace hh := hh.ext he (by simp)
       clear hE0 he
       obtain ⟨khh_2_0, khh_2_1, khh_2_2, khh_2_3, khh_2_4, khh_2_5⟩ := hh.six)
    | (go_at_call 8
       have htok := hE2
       clear htok
       refine (HP.out w2 c2).mono ?_
       rintro e w3 ⟨Ap, capp, c3, rfl, ho, he⟩
       have hE3 := hE2.trans he
       replace hx := hx.ext he (by simp)
       replace hy := hy.ext he (by simp)
       replace hh := hh.ext he (by simp)
       have hp : Rd u8 w3 c3 [1] (.slice Ap bs.length capp) bs := ho.rd (by simp) (by simp)
       clear ho
       clear hE2 he
       obtain ⟨khh_3_0, khh_3_1, khh_3_2, khh_3_3, khh_3_4, khh_3_5⟩ := hh.six))
  go_region_with (
    go_at_call 9
    have htok := hE3
    clear htok
    have hal := (Ext.refl [] w3 c3).drew
    replace hx := hx.ext hal (by simp)
    replace hy := hy.ext hal (by simp)
    replace hh := hh.ext hal (by simp)
    replace hp := hp.ext hal (by simp)
    replace hE3 := hE3.trans hal
    clear hal
    generalize w3.drew = v4 at *
    refine (HM.out v4 c3).mono ?_
    rintro e w5 ⟨c5, rfl, he⟩
    have hE5 := hE3.trans he
    replace hx := hx.ext he (by simp)
    replace hy := hy.ext he (by simp)
    replace hh := hh.ext he (by simp)
    replace hp := hp.ext he (by simp)
    clear hE3 he
    obtain ⟨khh_5_0, khh_5_1, khh_5_2, khh_5_3, khh_5_4, khh_5_5⟩ := hh.six)
  go_wp2_with (first
    | (go_at_call 10
       have htok := hE5
       clear htok
       refine (copy_calls xs _ w5 c5 [0] 2 hx (by omega)).mono ?_
       rintro e w6 ⟨Ac, capc, c6, rfl, ho, he⟩
       have hE6 := hE5.trans he
       replace hx := hx.ext he (by simp)
       replace hy := hy.ext he (by simp)
       replace hh := hh.ext he (by simp)
       replace hp := hp.ext he (by simp)
       replace ho := ho.base (β' := w.heap.size) (hE5.size)
       clear hE5 he
       obtain ⟨khh_6_0, khh_6_1, khh_6_2, khh_6_3, khh_6_4, khh_6_5⟩ := hh.six)
    | (at_builtin
       have htok := hE6
       clear htok
       refine own_append u8 (by decide) rfl _ _ 24 5 (.int .u8 0) 1 rfl Try.underlying24 info_u8 rfl (by decide) rfl rfl (hE6.size) ho (by simp) hp (fun x cs _ hK => kint_any hK) (by (try simp only [List.length_append]); omega) ?_
       intro vv7 w7 ho2 he hb
       have hE7 := hE6.later (Nat.le_refl _) (ho.below hb (hE6.size)) he.col
       clear ho
       generalize cx c6 w6.heap.size 2 = c7 at *
       replace hx := hx.ext he (by simp)
       replace hy := hy.ext he (by simp)
       replace hh := hh.ext he (by simp)
       replace hp := hp.ext he (by simp)
       obtain ⟨AA7, cap7, rfl⟩ := ho2.slice
       simp only [List.length_append, Nat.add_assoc] at ho2
       clear hE6 he hb
       obtain ⟨khh_7_0, khh_7_1, khh_7_2, khh_7_3, khh_7_4, khh_7_5⟩ := hh.six)
    | (at_builtin
       have htok := hE7
       clear htok
       refine own_append u8 (by decide) rfl _ _ 24 5 (.int .u8 0) 1 rfl Try.underlying24 info_u8 rfl (by decide) rfl rfl (hE7.size) ho2 (by simp) hy (fun x cs _ hK => kint_any hK) (by (try simp only [List.length_append]); omega) ?_
       intro vv8 w8 ho3 he hb
       have hE8 := hE7.later (Nat.le_refl _) (ho2.below hb (hE7.size)) he.col
       clear ho2
       generalize cx c7 w7.heap.size 2 = c8 at *
       replace hx := hx.ext he (by simp)
       replace hy := hy.ext he (by simp)
       replace hh := hh.ext he (by simp)
       replace hp := hp.ext he (by simp)
       obtain ⟨AA8, cap8, rfl⟩ := ho3.slice
       simp only [List.length_append, Nat.add_assoc] at ho3
       clear hE7 he hb
       obtain ⟨khh_8_0, khh_8_1, khh_8_2, khh_8_3, khh_8_4, khh_8_5⟩ := hh.six)
    | (go_at_call 11
       have htok := hE8
       clear htok
       have hb : Rd u8 w8 c8 [2] _ _ := ho3.rd (by simp) (by simp)
       clear ho3
       clear hp
       have HQ := HQ1.out w8 c8 _ hb
       refine (HQ).mono ?_
       rintro e w9 ⟨c9, rfl, he⟩
       have hE9 := hE8.trans he
       replace hx := hx.ext he (by simp)
       replace hy := hy.ext he (by simp)
       replace hh := hh.ext he (by simp)
       clear HQ hb
       clear hE8 he
       obtain ⟨khh_9_0, khh_9_1, khh_9_2, khh_9_3, khh_9_4, khh_9_5⟩ := hh.six))
  have hal := Ext.alloc [] w9 c9 (.cells #[.int .i64 g, .int .i64 v, .int .i64 q, .int .i64 f, .int .i64 l, .int .i64 n] 23) 0
  have hxx := Bx.new w9 c9 0 #[.int .i64 g, .int .i64 v, .int .i64 q, .int .i64 f, .int .i64 l, .int .i64 n] 23
  replace hx := hx.ext hal (by simp)
  replace hy := hy.ext hal (by simp)
  replace hh := hh.ext hal (by simp)
  replace hE9 := hE9.trans hal
  clear hal
  generalize cx c9 w9.heap.size 0 = d10 at *
  generalize w9.alloc (.cells #[.int .i64 g, .int .i64 v, .int .i64 q, .int .i64 f, .int .i64 l, .int .i64 n] 23) = v10 at *
  obtain ⟨kxx0, kxx1, kxx2, kxx3, kxx4, kxx5⟩ := hxx.six
  clear khh_9_0 khh_9_1 khh_9_2 khh_9_3 khh_9_4 khh_9_5
  obtain ⟨kyy0, kyy1, kyy2, kyy3, kyy4, kyy5⟩ := hh.six
  have hwr : IntKind.i64.wrap ((xs.length : Int) + bs.length) = xs.length + bs.length := i64id (by omega) (by omega)
  go_region_held3 (fun w' => w'.cell? ⟨w9.heap.size, 0, none⟩ = some (.int .i64 g) ∧ w'.cell? ⟨w9.heap.size, 1, none⟩ = some (.int .i64 v) ∧ w'.cell? ⟨w9.heap.size, 2, none⟩ = some (.int .i64 q) ∧ w'.cell? ⟨w9.heap.size, 3, none⟩ = some (.int .i64 f) ∧ w'.cell? ⟨w9.heap.size, 4, none⟩ = some (.int .i64 l) ∧ w'.cell? ⟨w9.heap.size, 5, none⟩ = some (.int .i64 n) ∧ w'.cell? ⟨w.heap.size, 0, none⟩ = some (.int .i64 g) ∧ w'.cell? ⟨w.heap.size, 1, none⟩ = some (.int .i64 v) ∧ w'.cell? ⟨w.heap.size, 2, none⟩ = some (.int .i64 q) ∧ w'.cell? ⟨w.heap.size, 3, none⟩ = some (.int .i64 f) ∧ w'.cell? ⟨w.heap.size, 4, none⟩ = some (.int .i64 l) ∧ w'.cell? ⟨w.heap.size, 5, none⟩ = some (.int .i64 n)) (go_keep) (first
    | (go_at_call 12
       have htok := hE9
       clear htok
       have hal := (Ext.refl [] v10 d10).drew
       replace hx := hx.ext hal (by simp)
       replace hy := hy.ext hal (by simp)
       replace hh := hh.ext hal (by simp)
       replace hxx := hxx.ext hal (by simp)
       replace hE9 := hE9.trans hal
       clear hal
       generalize v10.drew = v11 at *
       clear kxx0 kyy0 kxx1 kyy1 kxx2 kyy2 kxx3 kyy3 kxx4 kyy4 kxx5 kyy5
       refine (HPl.out v11 d10).mono ?_
       rintro e w12 ⟨c12, rfl, he⟩
       have hE12 := hE9.trans he
       replace hx := hx.ext he (by simp)
       replace hy := hy.ext he (by simp)
       replace hh := hh.ext he (by simp)
       replace hxx := hxx.ext he (by simp)
       clear hE9 he
       obtain ⟨khxx_12_0, khxx_12_1, khxx_12_2, khxx_12_3, khxx_12_4, khxx_12_5⟩ := hxx.six
       obtain ⟨khh_12_0, khh_12_1, khh_12_2, khh_12_3, khh_12_4, khh_12_5⟩ := hh.six)
    | (go_at_call 12
       have htok := hE12
       clear htok
       clear khxx_12_0 khxx_12_1 khxx_12_2 khxx_12_3 khxx_12_4 khxx_12_5 khh_12_0 khh_12_1 khh_12_2 khh_12_3 khh_12_4 khh_12_5
       refine (HPl.out w12 c12).mono ?_
       rintro e w13 ⟨c13, rfl, he⟩
       have hE13 := hE12.trans he
       replace hx := hx.ext he (by simp)
       replace hy := hy.ext he (by simp)
       replace hh := hh.ext he (by simp)
       replace hxx := hxx.ext he (by simp)
       clear hE12 he
       obtain ⟨khxx_13_0, khxx_13_1, khxx_13_2, khxx_13_3, khxx_13_4, khxx_13_5⟩ := hxx.six
       obtain ⟨khh_13_0, khh_13_1, khh_13_2, khh_13_3, khh_13_4, khh_13_5⟩ := hh.six))
  clear hwr
  go_wp2_with (first
    | (go_at_call 11
       have htok := hE13
       clear htok
       clear hxx hh
       refine (HQ2.out w13 c13 hy).mono ?_
       rintro e w14 ⟨c14, rfl, he⟩
       have hE14 := hE13.trans he
       replace hx := hx.ext he (by simp)
       replace hy := hy.ext he (by simp)
       clear hE13 he)
    | (go_at_call 8
       have htok := hE14
       clear htok
       have hal := Ext.alloc [] w14 c14 (.cells #[.int .i64 yg, .int .i64 yv, .int .i64 yq, .int .i64 yf, .int .i64 yl, .int .i64 yn] 23) 0
       have hyy := Bx.new w14 c14 0 #[.int .i64 yg, .int .i64 yv, .int .i64 yq, .int .i64 yf, .int .i64 yl, .int .i64 yn] 23
       replace hx := hx.ext hal (by simp)
       replace hy := hy.ext hal (by simp)
       replace hE14 := hE14.trans hal
       clear hal
       generalize cx c14 w14.heap.size 0 = d15 at *
       generalize w14.alloc (.cells #[.int .i64 yg, .int .i64 yv, .int .i64 yq, .int .i64 yf, .int .i64 yl, .int .i64 yn] 23) = v15 at *
       refine (HP2.out v15 d15).mono ?_
       rintro e w16 ⟨Aq, capq, c16, rfl, ho, he⟩
       have hE16 := hE14.trans he
       clear hyy
       replace hx := hx.ext he (by simp)
       replace hy := hy.ext he (by simp)
       have hq : Rd u8 w16 c16 [0, 1] (.slice Aq bs2.length capq) bs2 := ho.rd (by simp) (by simp)
       clear ho
       clear hE14 he)
    | (go_at_call 7
       have htok := hE16
       clear htok
       refine (HF.out w16 c16).mono ?_
       rintro e w17 ⟨c17, rfl, he⟩
       have hE17 := hE16.trans he
       replace hx := hx.ext he (by simp)
       replace hy := hy.ext he (by simp)
       replace hq := hq.ext he (by simp)
       obtain ⟨Az, hcut, hrd⟩ := HC.out
       have hr2 := hrd w17 c17 [0] ys hy
       rw [HB2.out] at hr2
       clear hE16 he)
    | (go_at_call 13
       have htok := hE17
       clear htok
       refine (bytes_same bs2 _ _ _ _ w17 c17 [0, 1] hq (hr2.mono (by simp))).mono ?_
       rintro e w18 ⟨rfl, he⟩
       have hE18 := hE17.trans he
       clear hq hr2 hy
       replace hx := hx.ext he (by simp)
       clear hE17 he))
  go_ret
  exact ⟨rfl, hE18.belowAll⟩
set_option maxRecDepth 100000 in
set_option maxHeartbeats 3200000 in
theorem hbm10 (g v q f l n kk : Int) (xs ys bs : List Int) (A1 A2 : Option Addr) (cap1 cap2 : Nat) (at' : Int) (w : World) (hl : xs.length ≤ 6000 ∧ ys.length ≤ 6000)
    (hx : Rd u8 w (fun _ => 0) [0] (.slice A1 xs.length cap1) xs) (hy : Rd u8 w (fun _ => 0) [0] (.slice A2 ys.length cap2) ys)
    (HP : Hid (∀ w c, Calls Try.prog 8 #[.agg #[.int .i64 g, .int .i64 v, .int .i64 q, .int .i64 f, .int .i64 l, .int .i64 n]] w fun e w' => ∃ A cap c', e = .returned (.tuple #[.slice A bs.length cap, .nilIface]) ∧ Own u8 5 w' c' 1 [] w.heap.size (.slice A bs.length cap) bs ∧ Ext [] w c w' c'))
    (HM : Hid (∀ w c, Calls Try.prog 9 #[.agg #[.int .i64 g, .int .i64 v, .int .i64 q, .int .i64 f, .int .i64 l, .int .i64 n]] w fun e w' => ∃ c', e = .returned (.bool true) ∧ Ext [] w c w' c'))
    (hbs : bs.length ≤ 100)
    (HQ1 : Hid (∀ w c V, Rd u8 w c [2] V (xs ++ bs ++ ys) → Calls Try.prog 11 #[V, .int .i64 xs.length] w fun e w' => ∃ c', e = .returned (.tuple #[.agg #[.int .i64 g, .int .i64 v, .int .i64 q, .int .i64 f, .int .i64 l, .int .i64 n], .int .i64 (xs.length + bs.length : Int), .nilIface]) ∧ Ext [] w c w' c'))
    (HPl : Hid (∀ w c, Calls Try.prog 12 #[.agg #[.int .i64 g, .int .i64 v, .int .i64 q, .int .i64 f, .int .i64 l, .int .i64 n]] w fun e w' => ∃ c', e = .returned (.agg #[.int .i64 g, .int .i64 v, .int .i64 q, .int .i64 f, .int .i64 l, .int .i64 n]) ∧ Ext [] w c w' c'))
    (HQ2 : Hid (∀ w c, Rd u8 w c [0] (.slice A2 ys.length cap2) ys → Calls Try.prog 11 #[.slice A2 ys.length cap2, .int .i64 at'] w fun e w' => ∃ v' c', e = .returned (.tuple #[.agg #[.int .i64 0, .int .i64 0, .int .i64 0, .int .i64 0, .int .i64 0, .int .i64 0], .int .i64 0, v']) ∧ EK w' c' [1] (.fail ⟨#[104, 101, 97, 100]⟩ at' (.code kk)) v' ∧ Ext [] w c w' c')) :
    Calls Try.prog 3 #[.agg #[.int .i64 g, .int .i64 v, .int .i64 q, .int .i64 f, .int .i64 l, .int .i64 n], .slice A1 xs.length cap1, .slice A2 ys.length cap2, .int .i64 at'] w (GoodB w) := by
  have d1 : decide ((6000 : Int) < xs.length) = false := decide_eq_false (by omega)
  have d2 : decide ((6000 : Int) < ys.length) = false := decide_eq_false (by omega)
  have hF := fun w c => first_calls w c
  have HF := Lib.hid hF
  clear hF
  have hE0 := Ext.refl [] w (fun _ => 0)
  go_enter Try.func3, Try.ntmps3
  go_wp2_with (first
    | (go_at_call 7
       have htok := hE0
       clear htok
       have hal := Ext.alloc [] w (fun _ => 0) (.cells #[.int .i64 g, .int .i64 v, .int .i64 q, .int .i64 f, .int .i64 l, .int .i64 n] 23) 0
       have hh := Bx.new w (fun _ => 0) 0 #[.int .i64 g, .int .i64 v, .int .i64 q, .int .i64 f, .int .i64 l, .int .i64 n] 23
       replace hx := hx.ext hal (by simp)
       replace hy := hy.ext hal (by simp)
       replace hE0 := hE0.trans hal
       clear hal
       generalize cx (fun _ => 0) w.heap.size 0 = d1 at *
       generalize w.alloc (.cells #[.int .i64 g, .int .i64 v, .int .i64 q, .int .i64 f, .int .i64 l, .int .i64 n] 23) = v1 at *
       refine (HF.out v1 d1).mono ?_
       rintro e w2 ⟨c2, rfl, he⟩
       have hE2 := hE0.trans he
       replace hx := hx.ext he (by simp)
       replace hy := hy.ext he (by simp)
       replace hh := hh.ext he (by simp)
       clear hE0 he
       obtain ⟨khh_2_0, khh_2_1, khh_2_2, khh_2_3, khh_2_4, khh_2_5⟩ := hh.six)
    | (go_at_call 8
       have htok := hE2
       clear htok
       refine (HP.out w2 c2).mono ?_
       rintro e w3 ⟨Ap, capp, c3, rfl, ho, he⟩
       have hE3 := hE2.trans he
       replace hx := hx.ext he (by simp)
       replace hy := hy.ext he (by simp)
       replace hh := hh.ext he (by simp)
       have hp : Rd u8 w3 c3 [1] (.slice Ap bs.length capp) bs := ho.rd (by simp) (by simp)
       clear ho
       clear hE2 he
       obtain ⟨khh_3_0, khh_3_1, khh_3_2, khh_3_3, khh_3_4, khh_3_5⟩ := hh.six))
  go_region_with (
    go_at_call 9
    have htok := hE3
    clear htok
    have hal := (Ext.refl [] w3 c3).drew
    replace hx := hx.ext hal (by simp)
    replace hy := hy.ext hal (by simp)
    replace hh := hh.ext hal (by simp)
    replace hp := hp.ext hal (by simp)
    replace hE3 := hE3.trans hal
    clear hal
    generalize w3.drew = v4 at *
    refine (HM.out v4 c3).mono ?_
    rintro e w5 ⟨c5, rfl, he⟩
    have hE5 := hE3.trans he
    replace hx := hx.ext he (by simp)
    replace hy := hy.ext he (by simp)
    replace hh := hh.ext he (by simp)
    replace hp := hp.ext he (by simp)
    clear hE3 he
    obtain ⟨khh_5_0, khh_5_1, khh_5_2, khh_5_3, khh_5_4, khh_5_5⟩ := hh.six)
  go_wp2_with (first
    | (go_at_call 10
       have htok := hE5
       clear htok
       refine (copy_calls xs _ w5 c5 [0] 2 hx (by omega)).mono ?_
       rintro e w6 ⟨Ac, capc, c6, rfl, ho, he⟩
       have hE6 := hE5.trans he
       replace hx := hx.ext he (by simp)
       replace hy := hy.ext he (by simp)
       replace hh := hh.ext he (by simp)
       replace hp := hp.ext he (by simp)
       replace ho := ho.base (β' := w.heap.size) (hE5.size)
       clear hE5 he
       obtain ⟨khh_6_0, khh_6_1, khh_6_2, khh_6_3, khh_6_4, khh_6_5⟩ := hh.six)
    | (at_builtin
       have htok := hE6
       clear htok
       refine own_append u8 (by decide) rfl _ _ 24 5 (.int .u8 0) 1 rfl Try.underlying24 info_u8 rfl (by decide) rfl rfl (hE6.size) ho (by simp) hp (fun x cs _ hK => kint_any hK) (by (try simp only [List.length_append]); omega) ?_
       intro vv7 w7 ho2 he hb
       have hE7 := hE6.later (Nat.le_refl _) (ho.below hb (hE6.size)) he.col
       clear ho
       generalize cx c6 w6.heap.size 2 = c7 at *
       replace hx := hx.ext he (by simp)
       replace hy := hy.ext he (by simp)
       replace hh := hh.ext he (by simp)
       replace hp := hp.ext he (by simp)
       obtain ⟨AA7, cap7, rfl⟩ := ho2.slice
       simp only [List.length_append, Nat.add_assoc] at ho2
       clear hE6 he hb
       obtain ⟨khh_7_0, khh_7_1, khh_7_2, khh_7_3, khh_7_4, khh_7_5⟩ := hh.six)
    | (at_builtin
       have htok := hE7
       clear htok
       refine own_append u8 (by decide) rfl _ _ 24 5 (.int .u8 0) 1 rfl Try.underlying24 info_u8 rfl (by decide) rfl rfl (hE7.size) ho2 (by simp) hy (fun x cs _ hK => kint_any hK) (by (try simp only [List.length_append]); omega) ?_
       intro vv8 w8 ho3 he hb
       have hE8 := hE7.later (Nat.le_refl _) (ho2.below hb (hE7.size)) he.col
       clear ho2
       generalize cx c7 w7.heap.size 2 = c8 at *
       replace hx := hx.ext he (by simp)
       replace hy := hy.ext he (by simp)
       replace hh := hh.ext he (by simp)
       replace hp := hp.ext he (by simp)
       obtain ⟨AA8, cap8, rfl⟩ := ho3.slice
       simp only [List.length_append, Nat.add_assoc] at ho3
       clear hE7 he hb
       obtain ⟨khh_8_0, khh_8_1, khh_8_2, khh_8_3, khh_8_4, khh_8_5⟩ := hh.six)
    | (go_at_call 11
       have htok := hE8
       clear htok
       have hb : Rd u8 w8 c8 [2] _ _ := ho3.rd (by simp) (by simp)
       clear ho3
       clear hp
       have HQ := HQ1.out w8 c8 _ hb
       refine (HQ).mono ?_
       rintro e w9 ⟨c9, rfl, he⟩
       have hE9 := hE8.trans he
       replace hx := hx.ext he (by simp)
       replace hy := hy.ext he (by simp)
       replace hh := hh.ext he (by simp)
       clear HQ hb
       clear hE8 he
       obtain ⟨khh_9_0, khh_9_1, khh_9_2, khh_9_3, khh_9_4, khh_9_5⟩ := hh.six))
  have hal := Ext.alloc [] w9 c9 (.cells #[.int .i64 g, .int .i64 v, .int .i64 q, .int .i64 f, .int .i64 l, .int .i64 n] 23) 0
  have hxx := Bx.new w9 c9 0 #[.int .i64 g, .int .i64 v, .int .i64 q, .int .i64 f, .int .i64 l, .int .i64 n] 23
  replace hx := hx.ext hal (by simp)
  replace hy := hy.ext hal (by simp)
  replace hh := hh.ext hal (by simp)
  replace hE9 := hE9.trans hal
  clear hal
  generalize cx c9 w9.heap.size 0 = d10 at *
  generalize w9.alloc (.cells #[.int .i64 g, .int .i64 v, .int .i64 q, .int .i64 f, .int .i64 l, .int .i64 n] 23) = v10 at *
  obtain ⟨kxx0, kxx1, kxx2, kxx3, kxx4, kxx5⟩ := hxx.six
  clear khh_9_0 khh_9_1 khh_9_2 khh_9_3 khh_9_4 khh_9_5
  obtain ⟨kyy0, kyy1, kyy2, kyy3, kyy4, kyy5⟩ := hh.six
  have hwr : IntKind.i64.wrap ((xs.length : Int) + bs.length) = xs.length + bs.length := i64id (by omega) (by omega)
  go_region_held3 (fun w' => w'.cell? ⟨w9.heap.size, 0, none⟩ = some (.int .i64 g) ∧ w'.cell? ⟨w9.heap.size, 1, none⟩ = some (.int .i64 v) ∧ w'.cell? ⟨w9.heap.size, 2, none⟩ = some (.int .i64 q) ∧ w'.cell? ⟨w9.heap.size, 3, none⟩ = some (.int .i64 f) ∧ w'.cell? ⟨w9.heap.size, 4, none⟩ = some (.int .i64 l) ∧ w'.cell? ⟨w9.heap.size, 5, none⟩ = some (.int .i64 n) ∧ w'.cell? ⟨w.heap.size, 0, none⟩ = some (.int .i64 g) ∧ w'.cell? ⟨w.heap.size, 1, none⟩ = some (.int .i64 v) ∧ w'.cell? ⟨w.heap.size, 2, none⟩ = some (.int .i64 q) ∧ w'.cell? ⟨w.heap.size, 3, none⟩ = some (.int .i64 f) ∧ w'.cell? ⟨w.heap.size, 4, none⟩ = some (.int .i64 l) ∧ w'.cell? ⟨w.heap.size, 5, none⟩ = some (.int .i64 n)) (go_keep) (first
    | (go_at_call 12
       have htok := hE9
       clear htok
       have hal := (Ext.refl [] v10 d10).drew
       replace hx := hx.ext hal (by simp)
       replace hy := hy.ext hal (by simp)
       replace hh := hh.ext hal (by simp)
       replace hxx := hxx.ext hal (by simp)
       replace hE9 := hE9.trans hal
       clear hal
       generalize v10.drew = v11 at *
       clear kxx0 kyy0 kxx1 kyy1 kxx2 kyy2 kxx3 kyy3 kxx4 kyy4 kxx5 kyy5
       refine (HPl.out v11 d10).mono ?_
       rintro e w12 ⟨c12, rfl, he⟩
       have hE12 := hE9.trans he
       replace hx := hx.ext he (by simp)
       replace hy := hy.ext he (by simp)
       replace hh := hh.ext he (by simp)
       replace hxx := hxx.ext he (by simp)
       clear hE9 he
       obtain ⟨khxx_12_0, khxx_12_1, khxx_12_2, khxx_12_3, khxx_12_4, khxx_12_5⟩ := hxx.six
       obtain ⟨khh_12_0, khh_12_1, khh_12_2, khh_12_3, khh_12_4, khh_12_5⟩ := hh.six)
    | (go_at_call 12
       have htok := hE12
       clear htok
       clear khxx_12_0 khxx_12_1 khxx_12_2 khxx_12_3 khxx_12_4 khxx_12_5 khh_12_0 khh_12_1 khh_12_2 khh_12_3 khh_12_4 khh_12_5
       refine (HPl.out w12 c12).mono ?_
       rintro e w13 ⟨c13, rfl, he⟩
       have hE13 := hE12.trans he
       replace hx := hx.ext he (by simp)
       replace hy := hy.ext he (by simp)
       replace hh := hh.ext he (by simp)
       replace hxx := hxx.ext he (by simp)
       clear hE12 he
       obtain ⟨khxx_13_0, khxx_13_1, khxx_13_2, khxx_13_3, khxx_13_4, khxx_13_5⟩ := hxx.six
       obtain ⟨khh_13_0, khh_13_1, khh_13_2, khh_13_3, khh_13_4, khh_13_5⟩ := hh.six))
  clear hwr
  go_wp2_with (first
    | (go_at_call 11
       have htok := hE13
       clear htok
       clear hxx hh
       refine (HQ2.out w13 c13 hy).mono ?_
       rintro e w14 ⟨ve, c14, rfl, ⟨ge, vee, rfl, hxe⟩, he⟩
       have hE14 := hE13.trans he
       clear hy
       replace hx := hx.ext he (by simp)
       clear hxe
       clear hE13 he)
    | (go_at_call 7
       have htok := hE14
       clear htok
       have hal := Ext.alloc [] w14 c14 (.cells #[.int .i64 0, .int .i64 0, .int .i64 0, .int .i64 0, .int .i64 0, .int .i64 0] 23) 0
       have hyy := Bx.new w14 c14 0 #[.int .i64 0, .int .i64 0, .int .i64 0, .int .i64 0, .int .i64 0, .int .i64 0] 23
       replace hx := hx.ext hal (by simp)
       replace hE14 := hE14.trans hal
       clear hal
       generalize cx c14 w14.heap.size 0 = d15 at *
       generalize w14.alloc (.cells #[.int .i64 0, .int .i64 0, .int .i64 0, .int .i64 0, .int .i64 0, .int .i64 0] 23) = v15 at *
       refine (HF.out v15 d15).mono ?_
       rintro e w16 ⟨c16, rfl, he⟩
       have hE16 := hE14.trans he
       clear hyy
       replace hx := hx.ext he (by simp)
       clear hE14 he))
  go_ret
  exact ⟨rfl, hE16.belowAll⟩
set_option maxRecDepth 100000 in
set_option maxHeartbeats 3200000 in
theorem hbm01 (g v q f l n yg yv yq yf yl yn : Int) (xs ys bs2 : List Int) (A1 A2 : Option Addr) (cap1 cap2 : Nat) (at' : Int) (w : World) (hl : xs.length ≤ 6000 ∧ ys.length ≤ 6000)
    (hx : Rd u8 w (fun _ => 0) [0] (.slice A1 xs.length cap1) xs) (hy : Rd u8 w (fun _ => 0) [0] (.slice A2 ys.length cap2) ys)
    (HP : Hid (∀ w c, Calls Try.prog 8 #[.agg #[.int .i64 g, .int .i64 v, .int .i64 q, .int .i64 f, .int .i64 l, .int .i64 n]] w fun e w' => ∃ v' c', e = .returned (.tuple #[.slice none 0 0, v']) ∧ EK w' c' [1] (.fail ⟨#[104, 101, 97, 100]⟩ q (.code (if (widthV q).2.2 = true then 1 else 6))) v' ∧ Ext [] w c w' c'))
    (HM : Hid (∀ w c, Calls Try.prog 9 #[.agg #[.int .i64 g, .int .i64 v, .int .i64 q, .int .i64 f, .int .i64 l, .int .i64 n]] w fun e w' => ∃ c', e = .returned (.bool false) ∧ Ext [] w c w' c'))
    (HQ2 : Hid (∀ w c, Rd u8 w c [0] (.slice A2 ys.length cap2) ys → Calls Try.prog 11 #[.slice A2 ys.length cap2, .int .i64 at'] w fun e w' => ∃ c', e = .returned (.tuple #[.agg #[.int .i64 yg, .int .i64 yv, .int .i64 yq, .int .i64 yf, .int .i64 yl, .int .i64 yn], .int .i64 (at' + bs2.length), .nilIface]) ∧ Ext [] w c w' c'))
    (HP2 : Hid (∀ w c, Calls Try.prog 8 #[.agg #[.int .i64 yg, .int .i64 yv, .int .i64 yq, .int .i64 yf, .int .i64 yl, .int .i64 yn]] w fun e w' => ∃ A cap c', e = .returned (.tuple #[.slice A bs2.length cap, .nilIface]) ∧ Own u8 5 w' c' 1 [] w.heap.size (.slice A bs2.length cap) bs2 ∧ Ext [] w c w' c'))
    (hb2 : 0 ≤ at' ∧ at' + bs2.length ≤ ys.length)
    (HB2 : Hid ((ys.drop at'.toNat).take bs2.length = bs2)) :
    Calls Try.prog 3 #[.agg #[.int .i64 g, .int .i64 v, .int .i64 q, .int .i64 f, .int .i64 l, .int .i64 n], .slice A1 xs.length cap1, .slice A2 ys.length cap2, .int .i64 at'] w (GoodB w) := by
  have d1 : decide ((6000 : Int) < xs.length) = false := decide_eq_false (by omega)
  have d2 : decide ((6000 : Int) < ys.length) = false := decide_eq_false (by omega)
  have hF := fun w c => first_calls w c
  have HF := Lib.hid hF
  clear hF
  have hE0 := Ext.refl [] w (fun _ => 0)
  have d3 : decide ((ys.length : Int) < at' + bs2.length) = false := decide_eq_false (by omega)
  have d4 : decide (at' + (bs2.length : Int) ≤ ys.length) = true := decide_eq_true (by omega)
  have hC := cut_lh (P := Try.prog) u8 24 5 _ _ Try.underlying24 info_u8 A2 ys.length cap2 .i64 .i64 at' (at' + bs2.length) bs2.length hb2.1 (by omega) hb2.2 (by obtain ⟨_, _, e, h⟩ := hy.slice; injection e with _ _ e; omega)
  have HC := Lib.hid hC
  clear hC
  go_enter Try.func3, Try.ntmps3
  go_wp2_with (first
    | (go_at_call 7
       have htok := hE0
       clear htok
       have hal := Ext.alloc [] w (fun _ => 0) (.cells #[.int .i64 g, .int .i64 v, .int .i64 q, .int .i64 f, .int .i64 l, .int .i64 n] 23) 0
       have hh := Bx.new w (fun _ => 0) 0 #[.int .i64 g, .int .i64 v, .int .i64 q, .int .i64 f, .int .i64 l, .int .i64 n] 23
       replace hx := hx.ext hal (by simp)
       replace hy := hy.ext hal (by simp)
       replace hE0 := hE0.trans hal
       clear hal
       generalize cx (fun _ => 0) w.heap.size 0 = d1 at *
       generalize w.alloc (.cells #[.int .i64 g, .int .i64 v, .int .i64 q, .int .i64 f, .int .i64 l, .int .i64 n] 23) = v1 at *
       refine (HF.out v1 d1).mono ?_
       rintro e w2 ⟨c2, rfl, he⟩
       have hE2 := hE0.trans he
       replace hx := hx.ext he (by simp)
       replace hy := hy.ext he (by simp)
       replace hh := hh.ext he (by simp)
       clear hE0 he
       obtain ⟨khh_2_0, khh_2_1, khh_2_2, khh_2_3, khh_2_4, khh_2_5⟩ := hh.six)
    | (go_at_call 8
       have htok := hE2
       clear htok
       refine (HP.out w2 c2).mono ?_
       rintro e w3 ⟨vp, c3, rfl, ⟨gp, vep, rfl, hxp⟩, he⟩
       have hE3 := hE2.trans he
       replace hx := hx.ext he (by simp)
       replace hy := hy.ext he (by simp)
       replace hh := hh.ext he (by simp)
       clear hxp
       clear hE2 he
       obtain ⟨khh_3_0, khh_3_1, khh_3_2, khh_3_3, khh_3_4, khh_3_5⟩ := hh.six))
  go_region_with (
    go_at_call 9
    have htok := hE3
    clear htok
    have hal := (Ext.refl [] w3 c3).drew
    replace hx := hx.ext hal (by simp)
    replace hy := hy.ext hal (by simp)
    replace hh := hh.ext hal (by simp)
    replace hE3 := hE3.trans hal
    clear hal
    generalize w3.drew = v4 at *
    refine (HM.out v4 c3).mono ?_
    rintro e w5 ⟨c5, rfl, he⟩
    have hE5 := hE3.trans he
    clear hh
    replace hx := hx.ext he (by simp)
    replace hy := hy.ext he (by simp)
    clear hE3 he)
  go_wp2_with (first
    | (go_at_call 11
       have htok := hE5
       clear htok
       refine (HQ2.out w5 c5 hy).mono ?_
       rintro e w6 ⟨c6, rfl, he⟩
       have hE6 := hE5.trans he
       replace hx := hx.ext he (by simp)
       replace hy := hy.ext he (by simp)
       clear hE5 he)
    | (go_at_call 8
       have htok := hE6
       clear htok
       have hal := Ext.alloc [] w6 c6 (.cells #[.int .i64 yg, .int .i64 yv, .int .i64 yq, .int .i64 yf, .int .i64 yl, .int .i64 yn] 23) 0
       have hyy := Bx.new w6 c6 0 #[.int .i64 yg, .int .i64 yv, .int .i64 yq, .int .i64 yf, .int .i64 yl, .int .i64 yn] 23
       replace hx := hx.ext hal (by simp)
       replace hy := hy.ext hal (by simp)
       replace hE6 := hE6.trans hal
       clear hal
       generalize cx c6 w6.heap.size 0 = d7 at *
       generalize w6.alloc (.cells #[.int .i64 yg, .int .i64 yv, .int .i64 yq, .int .i64 yf, .int .i64 yl, .int .i64 yn] 23) = v7 at *
       refine (HP2.out v7 d7).mono ?_
       rintro e w8 ⟨Aq, capq, c8, rfl, ho, he⟩
       have hE8 := hE6.trans he
       clear hyy
       replace hx := hx.ext he (by simp)
       replace hy := hy.ext he (by simp)
       have hq : Rd u8 w8 c8 [0, 1] (.slice Aq bs2.length capq) bs2 := ho.rd (by simp) (by simp)
       clear ho
       clear hE6 he)
    | (go_at_call 7
       have htok := hE8
       clear htok
       refine (HF.out w8 c8).mono ?_
       rintro e w9 ⟨c9, rfl, he⟩
       have hE9 := hE8.trans he
       replace hx := hx.ext he (by simp)
       replace hy := hy.ext he (by simp)
       replace hq := hq.ext he (by simp)
       obtain ⟨Az, hcut, hrd⟩ := HC.out
       have hr2 := hrd w9 c9 [0] ys hy
       rw [HB2.out] at hr2
       clear hE8 he)
    | (go_at_call 13
       have htok := hE9
       clear htok
       refine (bytes_same bs2 _ _ _ _ w9 c9 [0, 1] hq (hr2.mono (by simp))).mono ?_
       rintro e w10 ⟨rfl, he⟩
       have hE10 := hE9.trans he
       clear hq hr2 hy
       replace hx := hx.ext he (by simp)
       clear hE9 he))
  go_ret
  exact ⟨rfl, hE10.belowAll⟩
set_option maxRecDepth 100000 in
set_option maxHeartbeats 3200000 in
theorem hbm00 (g v q f l n kk : Int) (xs ys : List Int) (A1 A2 : Option Addr) (cap1 cap2 : Nat) (at' : Int) (w : World) (hl : xs.length ≤ 6000 ∧ ys.length ≤ 6000)
    (hx : Rd u8 w (fun _ => 0) [0] (.slice A1 xs.length cap1) xs) (hy : Rd u8 w (fun _ => 0) [0] (.slice A2 ys.length cap2) ys)
    (HP : Hid (∀ w c, Calls Try.prog 8 #[.agg #[.int .i64 g, .int .i64 v, .int .i64 q, .int .i64 f, .int .i64 l, .int .i64 n]] w fun e w' => ∃ v' c', e = .returned (.tuple #[.slice none 0 0, v']) ∧ EK w' c' [1] (.fail ⟨#[104, 101, 97, 100]⟩ q (.code (if (widthV q).2.2 = true then 1 else 6))) v' ∧ Ext [] w c w' c'))
    (HM : Hid (∀ w c, Calls Try.prog 9 #[.agg #[.int .i64 g, .int .i64 v, .int .i64 q, .int .i64 f, .int .i64 l, .int .i64 n]] w fun e w' => ∃ c', e = .returned (.bool false) ∧ Ext [] w c w' c'))
    (HQ2 : Hid (∀ w c, Rd u8 w c [0] (.slice A2 ys.length cap2) ys → Calls Try.prog 11 #[.slice A2 ys.length cap2, .int .i64 at'] w fun e w' => ∃ v' c', e = .returned (.tuple #[.agg #[.int .i64 0, .int .i64 0, .int .i64 0, .int .i64 0, .int .i64 0, .int .i64 0], .int .i64 0, v']) ∧ EK w' c' [1] (.fail ⟨#[104, 101, 97, 100]⟩ at' (.code kk)) v' ∧ Ext [] w c w' c')) :
    Calls Try.prog 3 #[.agg #[.int .i64 g, .int .i64 v, .int .i64 q, .int .i64 f, .int .i64 l, .int .i64 n], .slice A1 xs.length cap1, .slice A2 ys.length cap2, .int .i64 at'] w (GoodB w) := by
  have d1 : decide ((6000 : Int) < xs.length) = false := decide_eq_false (by omega)
  have d2 : decide ((6000 : Int) < ys.length) = false := decide_eq_false (by omega)
  have hF := fun w c => first_calls w c
  have HF := Lib.hid hF
  clear hF
  have hE0 := Ext.refl [] w (fun _ => 0)
  go_enter Try.func3, Try.ntmps3
  go_wp2_with (first
    | (go_at_call 7
       have htok := hE0
       clear htok
       have hal := Ext.alloc [] w (fun _ => 0) (.cells #[.int .i64 g, .int .i64 v, .int .i64 q, .int .i64 f, .int .i64 l, .int .i64 n] 23) 0
       have hh := Bx.new w (fun _ => 0) 0 #[.int .i64 g, .int .i64 v, .int .i64 q, .int .i64 f, .int .i64 l, .int .i64 n] 23
       replace hx := hx.ext hal (by simp)
       replace hy := hy.ext hal (by simp)
       replace hE0 := hE0.trans hal
       clear hal
       generalize cx (fun _ => 0) w.heap.size 0 = d1 at *
       generalize w.alloc (.cells #[.int .i64 g, .int .i64 v, .int .i64 q, .int .i64 f, .int .i64 l, .int .i64 n] 23) = v1 at *
       refine (HF.out v1 d1).mono ?_
       rintro e w2 ⟨c2, rfl, he⟩
       have hE2 := hE0.trans he
       replace hx := hx.ext he (by simp)
       replace hy := hy.ext he (by simp)
       replace hh := hh.ext he (by simp)
       clear hE0 he
       obtain ⟨khh_2_0, khh_2_1, khh_2_2, khh_2_3, khh_2_4, khh_2_5⟩ := hh.six)
    | (go_at_call 8
       have htok := hE2
       clear htok
       refine (HP.out w2 c2).mono ?_
       rintro e w3 ⟨vp, c3, rfl, ⟨gp, vep, rfl, hxp⟩, he⟩
       have hE3 := hE2.trans he
       replace hx := hx.ext he (by simp)
       replace hy := hy.ext he (by simp)
       replace hh := hh.ext he (by simp)
       clear hxp
       clear hE2 he
       obtain ⟨khh_3_0, khh_3_1, khh_3_2, khh_3_3, khh_3_4, khh_3_5⟩ := hh.six))
  go_region_with (
    go_at_call 9
    have htok := hE3
    clear htok
    have hal := (Ext.refl [] w3 c3).drew
    replace hx := hx.ext hal (by simp)
    replace hy := hy.ext hal (by simp)
    replace hh := hh.ext hal (by simp)
    replace hE3 := hE3.trans hal
    clear hal
    generalize w3.drew = v4 at *
    refine (HM.out v4 c3).mono ?_
    rintro e w5 ⟨c5, rfl, he⟩
    have hE5 := hE3.trans he
    clear hh
    replace hx := hx.ext he (by simp)
    replace hy := hy.ext he (by simp)
    clear hE3 he)
  go_wp2_with (first
    | (go_at_call 11
       have htok := hE5
       clear htok
       refine (HQ2.out w5 c5 hy).mono ?_
       rintro e w6 ⟨ve, c6, rfl, ⟨ge, vee, rfl, hxe⟩, he⟩
       have hE6 := hE5.trans he
       clear hy
       replace hx := hx.ext he (by simp)
       clear hxe
       clear hE5 he)
    | (go_at_call 7
       have htok := hE6
       clear htok
       have hal := Ext.alloc [] w6 c6 (.cells #[.int .i64 0, .int .i64 0, .int .i64 0, .int .i64 0, .int .i64 0, .int .i64 0] 23) 0
       have hyy := Bx.new w6 c6 0 #[.int .i64 0, .int .i64 0, .int .i64 0, .int .i64 0, .int .i64 0, .int .i64 0] 23
       replace hx := hx.ext hal (by simp)
       replace hE6 := hE6.trans hal
       clear hal
       generalize cx c6 w6.heap.size 0 = d7 at *
       generalize w6.alloc (.cells #[.int .i64 0, .int .i64 0, .int .i64 0, .int .i64 0, .int .i64 0, .int .i64 0] 23) = v7 at *
       refine (HF.out v7 d7).mono ?_
       rintro e w8 ⟨c8, rfl, he⟩
       have hE8 := hE6.trans he
       clear hyy
       replace hx := hx.ext he (by simp)
       clear hE6 he))
  go_ret
  exact ⟨rfl, hE8.belowAll⟩
end Go.Proofs.Ytgihcfkcghohnaa.Head
