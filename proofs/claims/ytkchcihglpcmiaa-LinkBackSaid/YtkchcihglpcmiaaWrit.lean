/- Contracts of package wire's Writer (U, Bytes, Out), over this seat's translation. -/
import Derived.Test.YtkchcihglpcmiaaBase
import Derived.WalkLawsBesides
import Derived.Deep.RegionLaw
import Derived.Deep.AppendLies
namespace Go.Proofs.Ytkchcihglpcmiaa.Wire
open Go.RowKit Go.Proofs.Ytkchcihglpcmiaa.Sk Go.Proofs.Ytkchcihglpcmiaa.Num
attribute [local go_sem] max2i min2i max2v min2v

/-- A writer at block g: its bytes; all of the colour κ. -/
def Wrt (w : World) (c : Col) (κ g : Nat) (b : List Int) : Prop :=
  ∃ v, w.heap[g]? = some (.cells #[v] 80 (0, 0)) ∧ c g = κ ∧ Own u8 5 w c κ [] g v b
theorem Wrt.ext {w w' : World} {c c' : Col} {κ g : Nat} {b : List Int} {M : List Nat} (h : Wrt w c κ g b) (he : Ext M w c w' c') (hM : κ ∉ M) : Wrt w' c' κ g b := by
  obtain ⟨v, h1, h2, h3⟩ := h
  have hg := blkLt h1
  exact ⟨v, by rw [he.keep g hg (by rw [h2]; exact hM)]; exact h1, by rw [he.col g hg]; exact h2, h3.ext he hM (by simp)⟩
/-- The new value is stored. -/
theorem Wrt.mk {w : World} {c : Col} {κ g : Nat} {v v' : Value} {b : List Int} (h1 : w.heap[g]? = some (.cells #[v] 80 (0, 0))) (h2 : c g = κ) (h3 : Own u8 5 w c κ [] g v' b) : Wrt (w.setCell ⟨g, 0, none⟩ v') c κ g b :=
  ⟨v', by have := blkSet h1 0 v'; simpa using this, h2, h3.far h1 (by decide) 0 v'⟩
set_option maxHeartbeats 400000 in
theorem newWriter_calls (w : World) (c : Col) (κ : Nat) :
    Calls Try.prog 27 #[] w fun e w' => ∃ g c', e = .returned (.pointer (some ⟨g, 0, none⟩)) ∧ w.heap.size ≤ g ∧ Wrt w' c' κ g [] ∧ Ext [] w c w' c' := by
  go_enter Try.func27, Try.ntmps27
  go_wp2
  go_ret
  exact ⟨w.heap.size, _, rfl, Nat.le_refl _, ⟨_, heap_alloc_new w _, cx_new (Nat.le_refl _), Own.nil _ _ _ _ _ _ _⟩, Ext.alloc [] w c _ κ⟩
set_option maxHeartbeats 400000 in
theorem wbytes_calls (g : Nat) (b xs : List Int) (v : Value) (w : World) (c : Col) (κ : Nat) (S : List Nat) (hw : Wrt w c κ g b) (hx : Rd u8 w c S v xs) (hl : b.length + xs.length ≤ 140737488355328) :
    Calls Try.prog 28 #[.pointer (some ⟨g, 0, none⟩), v] w fun e w' => ∃ c', e = .returned (.tuple #[]) ∧ Wrt w' c' κ g (b ++ xs) ∧ Ext [κ] w c w' c' ∧ Below g w w' := by
  obtain ⟨v0, h1, h2, h3⟩ := hw
  obtain ⟨A0, cap0, rfl⟩ := h3.slice
  obtain ⟨A, cap, rfl, _⟩ := hx.slice
  have hc0 := blkCell h1 0
  simp at hc0
  have hlt := blkLt h1
  go_enter Try.func28, Try.ntmps28
  go_wp2_with (at_builtin; refine own_append u8 (by decide) rfl _ _ 22 5 (.int .u8 0) 1 rfl Try.underlying22 info_u8 rfl (by decide) rfl rfl (Nat.le_of_lt hlt) h3 (by simp) hx (fun x cs _ hK => kint_any hK) (by simpa using hl) ?_; intro v' w1 ho he hb; obtain ⟨A', cap', rfl⟩ := ho.slice; have h1' := h3.other hb h1 (by decide); have hB := h3.below hb (Nat.le_of_lt hlt); clear hb; have hc1 := blkCell h1' 0; have hf1 := blkFree h1' 0; simp at hc1)
  go_end0
  have hk : (cx c w.heap.size κ) g = κ := by rw [cx_old hlt]; exact h2
  exact ⟨_, rfl, by have := Wrt.mk h1' hk ho; simpa using this, he.trans (Ext.set (by simp [hk]) _), hB.setCell (Nat.le_refl _) _⟩
/-- What most tells. -/
def mostV (n less : Int) : Int := 2 ^ (8 * (if n < 1 then 1 else if 6 < n then 6 else n) - less).toNat - 1
set_option maxHeartbeats 400000 in
theorem most_calls (n less : Int) (w : World) (h0 : 0 ≤ less) (h1 : less ≤ 1) :
    Calls Try.prog 44 #[.int .i64 n, .int .i64 less] w fun e w' => e = .returned (.int .i64 (mostV n less)) ∧ w = w' := by
  have key : ∀ m : Int, 1 ≤ m → m ≤ 6 → 1 ≤ (2 : Int) ^ (8 * m - less).toNat ∧ (2 : Int) ^ (8 * m - less).toNat ≤ 281474976710656 := by
    intro m hm0 hm1
    have := pow_le (show (8 * m - less).toNat ≤ 48 by omega)
    have h0 := pow_le (show 0 ≤ (8 * m - less).toNat by omega)
    exact ⟨h0, by omega⟩
  have goal : ∀ m : Int, 1 ≤ m → m ≤ 6 → (if n < 1 then 1 else if 6 < n then 6 else n) = m → Calls Try.prog 44 #[.int .i64 n, .int .i64 less] w fun e w' => e = .returned (.int .i64 (2 ^ (8 * m - less).toNat - 1)) ∧ w = w' := by
    intro m hm0 hm1 hm
    have hk := key m hm0 hm1
    have e1 : (if (if n < 1 then 1 else n) > 6 then 6 else (if n < 1 then 1 else n)) = m := by rw [← hm]; split <;> split <;> omega
    go_enter Try.func44, Try.ntmps44
    go_wp2
    all_goals (go_ret; exact ⟨rfl, rfl⟩)
  exact goal _ (by split <;> (try split) <;> omega) (by split <;> (try split) <;> omega) rfl
set_option maxHeartbeats 400000 in
theorem check_ok (p : Value) (n v low high : Int) (w : World) (h1 : 1 ≤ n) (h2 : n ≤ 6) (h3 : low ≤ v) (h4 : v ≤ high) :
    Calls Try.prog 43 #[p, .int .i64 n, .int .i64 v, .int .i64 low, .int .i64 high] w fun e w' => e = .returned .nilIface ∧ w = w' := by
  have d1 : decide (n < 1) = false := decide_eq_false (by omega)
  have d2 : decide (6 < n) = false := decide_eq_false (by omega)
  have d3 : decide (v < low) = false := decide_eq_false (by omega)
  have d4 : decide (high < v) = false := decide_eq_false (by omega)
  go_enter Try.func43, Try.ntmps43
  go_wp2
  go_ret
  exact ⟨rfl, rfl⟩
set_option maxHeartbeats 400000 in
theorem check_bad (g : Nat) (b : List Int) (n v low high : Int) (w : World) (c : Col) (κ κ' : Nat) (hw : Wrt w c κ g b) (h : ¬ (1 ≤ n ∧ n ≤ 6 ∧ low ≤ v ∧ v ≤ high)) :
    Calls Try.prog 43 #[.pointer (some ⟨g, 0, none⟩), .int .i64 n, .int .i64 v, .int .i64 low, .int .i64 high] w fun e w' => ∃ v' c', e = .returned v' ∧ EK w' c' [κ'] (.fail ⟨#[119, 105, 114, 101]⟩ b.length (.code 1)) v' ∧ Ext [] w c w' c' := by
  obtain ⟨v0, q1, q2, q3⟩ := hw
  obtain ⟨A0, cap0, rfl⟩ := q3.slice
  have hc0 := blkCell q1 0
  simp at hc0
  by_cases c1 : n < 1
  · have d1 : decide (n < 1) = true := decide_eq_true c1
    go_enter Try.func43, Try.ntmps43
    go_wp2_with (go_at_call 42; refine (in_calls _ _ (.code 1) _ _ c [κ'] κ' (by simp) rfl).mono ?_; rintro e w1 ⟨v1, c1, rfl, ho, he⟩)
    go_ret
    exact ⟨_, _, rfl, ho, he⟩
  · have d1 : decide (n < 1) = false := decide_eq_false c1
    by_cases c2 : 6 < n
    · have d2 : decide (6 < n) = true := decide_eq_true c2
      go_enter Try.func43, Try.ntmps43
      go_wp2_with (go_at_call 42; refine (in_calls _ _ (.code 1) _ _ c [κ'] κ' (by simp) rfl).mono ?_; rintro e w1 ⟨v1, c1, rfl, ho, he⟩)
      go_ret
      exact ⟨_, _, rfl, ho, he⟩
    · have d2 : decide (6 < n) = false := decide_eq_false c2
      by_cases c3 : v < low
      · have d3 : decide (v < low) = true := decide_eq_true c3
        go_enter Try.func43, Try.ntmps43
        go_wp2_with (go_at_call 42; refine (in_calls _ _ (.code 1) _ _ c [κ'] κ' (by simp) rfl).mono ?_; rintro e w1 ⟨v1, c1, rfl, ho, he⟩)
        go_ret
        exact ⟨_, _, rfl, ho, he⟩
      · have d3 : decide (v < low) = false := decide_eq_false c3
        have d4 : decide (high < v) = true := decide_eq_true (by omega)
        go_enter Try.func43, Try.ntmps43
        go_wp2_with (go_at_call 42; refine (in_calls _ _ (.code 1) _ _ c [κ'] κ' (by simp) rfl).mono ?_; rintro e w1 ⟨v1, c1, rfl, ho, he⟩)
        go_ret
        exact ⟨_, _, rfl, ho, he⟩
set_option maxHeartbeats 800000 in
theorem split_calls (n : Nat) (v : Int) (w : World) (c : Col) (κ : Nat) (hn : n ≤ 6) :
    Calls Try.prog 45 #[.int .i64 n, .int .i64 v] w fun e w' => ∃ A cap c', e = .returned (.slice A n cap) ∧ Own u8 5 w' c' κ [] w.heap.size (.slice A n cap) (leB n v) ∧ Ext [] w c w' c' := by
  have hmk := fun W => run_make_row' (P := Try.prog) 22 5 (.int .u8 0) 1 Try.underlying22 info_u8 rfl .i64 .i64 n (by omega) (by omega) W
  have ho := Own.makeInts .u8 5 w c κ [] n (by omega) (by decide)
  have hE := Ext.alloc [] w c (.cells (madeCells #[.int .u8 0] n) 5) κ
  generalize hc1 : cx c w.heap.size κ = c1 at ho hE
  clear hc1
  go_enter Try.func45, Try.ntmps45
  go_wp2
  go_loopw [6, 11] (fun _ i wr => ∃ k : Nat, k ≤ n ∧ i = .int .i64 k ∧ ∃ xs, xs.length = n ∧ (∀ j, j < k → xs[j]? = (leB n v)[j]?) ∧ Own u8 5 wr c1 κ [] w.heap.size (.slice (some ⟨w.heap.size, 0, none⟩) n n) xs ∧ Ext [] w c wr c1) (fun _ i _ => n - (intOf i).toNat)
  case atStart => exact ⟨0, Nat.zero_le _, rfl, _, List.length_replicate, by simp, ho, hE⟩
  case round =>
    clear ho hE hmk
    obtain ⟨k, hk, rfl, xs, hxl, hxs, ho, hE⟩ := hrel
    by_cases hlt : k < n
    · obtain ⟨g, cap, e1, hb, hg, _, hcol, hcell, hfr⟩ := ho.block (by omega)
      injection e1 with e1 _ _
      injection e1 with e1
      injection e1 with e1 _ _
      subst e1
      obtain ⟨x0, hx0⟩ : ∃ x0, xs[k]? = some x0 := ⟨_, List.getElem?_eq_getElem (by omega)⟩
      have hck := hcell k x0 hx0
      have hfk := hfr k
      have HX := Lib.hid hxs
      have HL := Lib.hid hxl
      clear hcell hfr hxs hxl hx0
      go_wp2
      obtain ⟨p1, p2, p3⟩ := ho.put k (v / 2 ^ (8 * k) % 256) (u8rng (by omega) (by omega))
      refine ⟨⟨k + 1, by omega, by go_num, xs.set k (v / 2 ^ (8 * k) % 256), by rw [List.length_set]; exact HL.out, fun j hj => ?_, p1, hE.later (Nat.le_refl _) p3 (fun _ _ => rfl)⟩, by simp [intOf]; omega⟩
      by_cases hjk : j = k
      · subst hjk
        rw [List.getElem?_set_self (by rw [HL.out]; omega), leB_get n v j hlt]
      · rw [List.getElem?_set_ne (by omega)]
        exact HX.out j (by omega)
    · have HX := Lib.hid hxs
      have HL := Lib.hid hxl
      clear hxs hxl
      go_wp2
      go_ret
      have e : xs = leB n v := by
        apply List.ext_getElem?
        intro j
        rcases Nat.lt_or_ge j k with h | h
        · exact HX.out j h
        · rw [List.getElem?_eq_none (by rw [HL.out]; omega), List.getElem?_eq_none (by rw [leB_length]; omega)]
      rw [e] at ho
      exact ⟨_, _, _, rfl, ho, hE⟩
/-- May a number of so many bytes be written without a sign? -/
def fitsU (n v : Int) : Prop := 1 ≤ n ∧ n ≤ 6 ∧ 0 ≤ v ∧ v < 2 ^ (8 * n).toNat
instance (n v : Int) : Decidable (fitsU n v) := by unfold fitsU; exact inferInstance
set_option maxHeartbeats 400000 in
theorem wu_bad (g : Nat) (b : List Int) (n v : Int) (w : World) (c : Col) (κ κ' : Nat) (hw : Wrt w c κ g b) (h : ¬ fitsU n v) :
    Calls Try.prog 29 #[.pointer (some ⟨g, 0, none⟩), .int .i64 n, .int .i64 v] w fun e w' => ∃ v' c', e = .returned v' ∧ EK w' c' [κ'] (.fail ⟨#[119, 105, 114, 101]⟩ b.length (.code 1)) v' ∧ Wrt w' c' κ g b ∧ Ext [] w c w' c' := by
  have hb : ¬ (1 ≤ n ∧ n ≤ 6 ∧ 0 ≤ v ∧ v ≤ mostV n 0) := by
    intro ⟨h1, h2, h3, h4⟩
    refine h ⟨h1, h2, h3, ?_⟩
    unfold mostV at h4
    rw [if_neg (by omega), if_neg (by omega), Int.sub_zero] at h4
    omega
  go_enter Try.func29, Try.ntmps29
  go_wp2_with (first | (go_at_call 44; refine (most_calls n 0 _ (by omega) (by omega)).mono ?_; rintro e w' ⟨rfl, rfl⟩) | (go_at_call 43; refine (check_bad g b n v 0 (mostV n 0) _ c κ κ' hw hb).mono ?_; rintro e w1 ⟨v1, c1, rfl, ho, he⟩; obtain ⟨g1, ve1, rfl, ho1⟩ := id ho; clear ho1))
  go_ret
  exact ⟨_, _, rfl, ho, hw.ext he (by simp), he⟩
set_option maxHeartbeats 800000 in
theorem wu_ok (g : Nat) (b : List Int) (n v : Int) (w : World) (c : Col) (κ : Nat) (hw : Wrt w c κ g b) (h : fitsU n v) (hl : b.length + 6 ≤ 140737488355328) :
    Calls Try.prog 29 #[.pointer (some ⟨g, 0, none⟩), .int .i64 n, .int .i64 v] w fun e w' => ∃ c', e = .returned .nilIface ∧ Wrt w' c' κ g (b ++ leB n.toNat v) ∧ Ext [κ] w c w' c' ∧ Below g w w' := by
  obtain ⟨k1, k2, k3, k4⟩ := h
  have hb : v ≤ mostV n 0 := by
    unfold mostV
    rw [if_neg (by omega), if_neg (by omega), Int.sub_zero]
    omega
  obtain ⟨v0, h1, h2, h3⟩ := hw
  obtain ⟨A0, cap0, rfl⟩ := h3.slice
  have hc0 := blkCell h1 0
  simp at hc0
  have hlt := blkLt h1
  obtain ⟨m, rfl⟩ := Int.eq_ofNat_of_zero_le (show 0 ≤ n by omega)
  rw [Int.toNat_natCast]
  clear k4
  go_enter Try.func29, Try.ntmps29
  go_wp2_with (first | (go_at_call 44; refine (most_calls m 0 _ (by omega) (by omega)).mono ?_; rintro e w' ⟨rfl, rfl⟩) | (go_at_call 43; refine (check_ok _ m v 0 (mostV m 0) _ (by omega) (by omega) (by omega) hb).mono ?_; rintro e w1 ⟨rfl, rfl⟩))
  clear hb
  have hA : ∀ w2 c2, Ext [] w.drew c w2 c2 → Own u8 5 w2 c2 κ [] g (.slice A0 b.length cap0) b ∧ w2.heap[g]? = some (.cells #[.slice A0 b.length cap0] 80 (0, 0)) := fun w2 c2 he => ⟨(h3.ext (Ext.refl [] _ _).drew (by simp) (by simp)).ext he (by simp) (by simp), blkExt h1 ((Ext.refl [] _ _).drew.trans he) (by simp)⟩
  have HA := Lib.hid hA
  clear hA
  go_region_law (first | (refine step_own_append u8 (by decide) (by rfl) (.tmp 21) (.tmp 24) 22 5 (.int .u8 0) 1 (by rfl) Try.underlying22 info_u8 (by rfl) (by decide) (by rfl) (by rfl) (Nat.le_of_lt (blkLt (HA.out w2 c2 he).2)) (HA.out w2 c2 he).1 (by simp) (ho2.rd (S' := [κ + 1]) (by simp) (by simp)) (fun x cs _ hK => kint_any hK) (by rw [leB_length]; omega) ?_; intro v3 w3 ho3 he3 hb3; have h1' := (HA.out w2 c2 he).1.other hb3 (HA.out w2 c2 he).2 (by decide); have hc3 := blkCell h1' 0; have hf3 := blkFree h1' 0; simp at hc3; obtain ⟨A3, cap3, rfl⟩ := ho3.slice; have hB3 := (HA.out w2 c2 he).1.below hb3 (Nat.le_of_lt (blkLt (HA.out w2 c2 he).2)); clear hb3) | (go_simp; go_at_call 45; refine (split_calls m v _ c (κ + 1) (by omega)).mono ?_; rintro e w2 ⟨A2, cap2, c2, rfl, ho2, he⟩; have hc2 := blkCell (HA.out w2 c2 he).2 0; simp at hc2))
  all_goals
    go_wp2
    go_ret
    have hE := (Ext.refl [κ] w c).drew.trans (he.mono (by simp))
    have hk := (hE.trans he3).col g hlt
    rw [h2] at hk
    exact ⟨_, rfl, Wrt.mk h1' hk (by simpa using ho3), (hE.trans he3).trans (Ext.set (by simp [hk]) _), ((((Below.refl g w).drew).trans (he.belowAll.mono (Nat.le_of_lt hlt))).trans hB3).setCell (Nat.le_refl _) _⟩
set_option maxHeartbeats 400000 in
theorem out_calls (g : Nat) (b : List Int) (w : World) (c : Col) (κ κ' : Nat) (hw : Wrt w c κ g b) (hl : b.length ≤ 140737488355328) :
    Calls Try.prog 31 #[.pointer (some ⟨g, 0, none⟩)] w fun e w' => ∃ A cap c', e = .returned (.slice A b.length cap) ∧ Own u8 5 w' c' κ' [] w.heap.size (.slice A b.length cap) b ∧ Ext [] w c w' c' := by
  obtain ⟨v0, h1, h2, h3⟩ := hw
  obtain ⟨A0, cap0, rfl⟩ := h3.slice
  have hc0 := blkCell h1 0
  simp at hc0
  go_enter Try.func31, Try.ntmps31
  go_wp2_with (go_at_call 36; refine (clone_calls b _ _ c [κ] κ' (h3.rd (by simp) (by simp)) hl).mono ?_; rintro e w1 ⟨A1, cap1, c1, rfl, ho, he⟩)
  go_ret
  exact ⟨_, _, _, rfl, ho, he⟩
end Go.Proofs.Ytkchcihglpcmiaa.Wire
