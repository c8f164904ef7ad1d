/- Chapter 14: sums, and bytes with their sum. -/
import Derived.Test.YtkchcihglpcmiaaBri
import Derived.Test.YtkchcihglpcmiaaWrit
import Derived.Test.YtkchcihglpcmiaaPLkx1
import Derived.Lib.Bytes
namespace Go.Proofs.Ytkchcihglpcmiaa.Link
open Go.RowKit Go.Proofs.Ytkchcihglpcmiaa.Sk Go.Proofs.Ytkchcihglpcmiaa.Num Go.Proofs.Ytkchcihglpcmiaa.Wire Go.Proofs.Ytkchcihglpcmiaa.PLk
open Go.Proofs.YtkchcihglpcmiaaW.PrintWords Go.Proofs.YtkchcihglpcmiaaW.PrintLast Go.Proofs.YtkchcihglpcmiaaW.PrintMore
attribute [local go_sem] max2i min2i max2v min2v

def Bytes8 (xs : List Int) : Prop := ∀ x, x ∈ xs → 0 ≤ x ∧ x ≤ 255
theorem Rd.bytes8 {w : World} {c : Col} {S : List Nat} {v : Value} {xs : List Int} (h : Rd u8 w c S v xs) : Bytes8 xs := fun x hx => rngu8 (h.range x hx)
theorem Bytes8.take {xs : List Int} (h : Bytes8 xs) (n : Nat) : Bytes8 (xs.take n) := fun x hx => h x (List.mem_of_mem_take hx)
theorem Bytes8.drop {xs : List Int} (h : Bytes8 xs) (n : Nat) : Bytes8 (xs.drop n) := fun x hx => h x (List.mem_of_mem_drop hx)
theorem map_inj8 : ∀ (xs ys : List Int), Bytes8 xs → Bytes8 ys → xs.map (fun n => UInt8.ofNat n.toNat) = ys.map (fun n => UInt8.ofNat n.toNat) → xs = ys
  | [], [], _, _, _ => rfl
  | [], _ :: _, _, _, h => by simp at h
  | _ :: _, [], _, _, h => by simp at h
  | x :: xs, y :: ys, hx, hy, h => by
    simp only [List.map_cons, List.cons.injEq] at h
    have e := congrArg UInt8.toNat h.1
    have h1 := hx x (by simp)
    have h2 := hy y (by simp)
    simp only [UInt8.toNat_ofNat'] at e
    rw [map_inj8 xs ys (fun z hz => hx z (by simp [hz])) (fun z hz => hy z (by simp [hz])) h.2, show x = y by omega]
theorem str_eq (xs ys : List Int) (hx : Bytes8 xs) (hy : Bytes8 ys) : ((strOfNums xs).toList == (strOfNums ys).toList) = decide (xs = ys) := by
  by_cases h : xs = ys
  · subst h; simp
  · rw [decide_eq_false h]
    apply beq_eq_false_iff_ne.2
    intro e
    rw [Lib.strOfNums_toList, Lib.strOfNums_toList] at e
    exact h (map_inj8 xs ys hx hy e)
/-- A byte's step of the sum. -/
def stepV (s b : Int) : Int := (crc_Step.f 9 42684 s b).getD 0
theorem l0_some (p : Int) : ∀ (j : Nat), j ≤ 8 → ∀ x, (crc_Step.l0 (j + 1) p x (8 - (j : Nat) : Int)).isSome
  | 0, _, x => by simp [crc_Step.l0]
  | j + 1, h, x => by
    have ih := l0_some p j (by omega)
    rw [crc_Step.l0, if_pos (by omega)]
    have e : wrap64 (8 - ((j + 1 : Nat) : Int) + 1) = 8 - (j : Nat) := by unfold wrap64; omega
    rw [e]
    split
    · exact ih _
    · exact ih _
theorem step_some (s b : Int) : crc_Step.f 9 42684 s b = some (stepV s b) := by
  unfold stepV crc_Step.f
  have := l0_some (Go.bits .and .i64 42684 65535) 8 (by omega) (Go.bits .xor .i64 (Go.bits .and .i64 s 65535) (wrap64 b))
  obtain ⟨r, hr⟩ := Option.isSome_iff_exists.1 this
  have hr' : crc_Step.l0 9 (Go.bits .and .i64 42684 65535) (Go.bits .xor .i64 (Go.bits .and .i64 s 65535) (wrap64 b)) 0 = some r := hr
  rw [hr']; rfl
theorem step_k (s b : Int) : ∀ j, crc_Step.f (9 + j) 42684 s b = some (stepV s b)
  | 0 => step_some s b
  | j + 1 => crc_Step.mono 42684 s b (9 + j) _ (step_k s b j)
/-- The sum of bytes. -/
def dnpV (xs : List Int) : Int := Go.bits .xor .i64 (xs.foldl stepV 0) 65535
theorem dnp_l0 (l : List Int) (hl : l.length ≤ 140737488355328) : ∀ (j : Nat), j ≤ l.length → ∀ s, crc_Dnp.l0 (j + 10) s l (l.length : Int) ((l.length - j : Nat) : Int) = some (Go.bits .xor .i64 ((l.drop (l.length - j)).foldl stepV s) 65535)
  | 0, _, s => by
    rw [crc_Dnp.l0, if_neg (by omega), Nat.sub_zero, List.drop_length]; rfl
  | j + 1, h, s => by
    have ih := dnp_l0 l hl j (by omega)
    rw [show j + 1 + 10 = (j + 10) + 1 by omega, crc_Dnp.l0, if_pos (by omega), if_pos (by omega), if_pos (by omega)]
    have hlt : l.length - (j + 1) < l.length := by omega
    have hs := step_k s (rd l ((l.length - (j + 1) : Nat) : Int)) (j + 1)
    rw [show 9 + (j + 1) = j + 10 by omega] at hs
    rw [hs, Option.bind_some]
    have e : wrap64 (((l.length - (j + 1) : Nat) : Int) + 1) = ((l.length - j : Nat) : Int) := by unfold wrap64; omega
    rw [e, ih, List.drop_eq_getElem_cons hlt, List.foldl_cons]
    have e2 : rd l ((l.length - (j + 1) : Nat) : Int) = l[l.length - (j + 1)] := by simp [rd, List.getD_eq_getElem?_getD, List.getElem?_eq_getElem hlt]
    rw [e2, show l.length - (j + 1) + 1 = l.length - j by omega]
theorem dnp_f (l : List Int) (hl : l.length ≤ 140737488355328) : crc_Dnp.f (l.length + 10) l = some (dnpV l) := by
  have := dnp_l0 l hl l.length (Nat.le_refl _) 0
  rw [Nat.sub_self, List.drop_zero] at this
  exact this
theorem dnp_calls (xs : List Int) (A : Option Addr) (cap : Nat) (w : World) (c : Col) (S : List Nat) (hx : Rd u8 w c S (.slice A xs.length cap) xs) (hl : xs.length ≤ 140737488355328) :
    Calls Try.prog 46 #[.slice A xs.length cap] w fun e w' => e = .returned (.int .i64 (dnpV xs)) ∧ Ext [] w c w' c := by
  obtain ⟨_, _, e, hc⟩ := hx.slice
  injection e with _ _ e
  refine (crc_Dnp.calls (xs.length + 10) A cap xs (dnpV xs) w (kd_of_rd hx) (by omega) (dnp_f xs hl)).mono ?_
  rintro e w' ⟨rfl, ⟨nd, rfl⟩⟩
  exact ⟨rfl, (Ext.refl _ _ _).drewN nd⟩
theorem notin_max (S : List Nat) : S.foldr max 0 + 1 ∉ S := by
  intro h
  have key : ∀ (S : List Nat) (x : Nat), x ∈ S → x ≤ S.foldr max 0 := by
    intro S
    induction S with
    | nil => intro x h; cases h
    | cons y S ih =>
      intro x h
      simp only [List.foldr_cons]
      rcases List.mem_cons.1 h with rfl | h
      · exact Nat.le_max_left _ _
      · exact Nat.le_trans (ih x h) (Nat.le_max_right _ _)
  have := key S _ h
  omega
/-- The sum as two bytes. -/
def crcB (xs : List Int) : List Int := [dnpV xs % 256, dnpV xs / 256 % 256]
theorem u8wrap (x : Int) : IntKind.u8.wrap x = x % 256 := by simp [IntKind.wrap, IntKind.bits, IntKind.signed]
theorem crcB_len (xs : List Int) : (crcB xs).length = 2 := rfl
theorem crcB_8 (xs : List Int) : Bytes8 (crcB xs) := by
  intro x hx
  unfold crcB at hx
  simp only [List.mem_cons, List.not_mem_nil, or_false] at hx
  omega
set_option maxHeartbeats 1600000 in
theorem summed_calls (xs : List Int) (A : Option Addr) (cap : Nat) (w : World) (c : Col) (S : List Nat) (κ : Nat) (hx : Rd u8 w c S (.slice A xs.length cap) xs) (hl : xs.length ≤ 1000000) (hS : κ ∉ S) :
    Calls Try.prog 30 #[.slice A xs.length cap] w fun e w' => ∃ A' cap' c', e = .returned (.slice A' (xs.length + 2) cap') ∧ Own u8 5 w' c' κ [] w.heap.size (.slice A' (xs.length + 2) cap') (xs ++ crcB xs) ∧ Ext [] w c w' c' := by
  have hE0 := Ext.refl [] w c
  go_enter Try.func30, Try.ntmps30
  go_wp2_with (first
    | (go_at_call 46
       have htok := hE0
       clear htok
       refine (dnp_calls xs A cap w c S hx (by omega)).mono ?_
       rintro e w1 ⟨rfl, he⟩
       have hE1 := hE0.trans he
       replace hx := hx.ext he (by simp)
       clear hE0 he)
    | (go_at_call 36
       have htok := hE1
       clear htok
       refine (clone_calls xs _ w1 c S κ hx (by omega)).mono ?_
       rintro e w2 ⟨A2, cap2, c2, rfl, ho, he⟩
       have hE2 := hE1.trans he
       replace ho := ho.base (β' := w.heap.size) (hE1.size)
       clear hE1 he)
    | (at_builtin
       have htok := hE2
       clear htok
       have hal := Ext.alloc [] w2 c2 (.cells #[.int .u8 (dnpV xs % 256), .int .u8 (dnpV xs / 256 % 256)] 5) (κ + 1)
       have hlit : Own u8 5 (w2.alloc (.cells #[.int .u8 (dnpV xs % 256), .int .u8 (dnpV xs / 256 % 256)] 5)) (cx c2 w2.heap.size (κ + 1)) (κ + 1) [] w2.heap.size (.slice (some ⟨w2.heap.size, 0, none⟩) 2 2) (crcB xs) := Own.ints .u8 5 w2 c2 (κ + 1) [] (crcB xs) (fun x hx => u8rng (crcB_8 xs x hx).1 (crcB_8 xs x hx).2) (by rw [crcB_len]; omega)
       replace ho := ho.ext hal (by simp) (by simp)
       replace hE2 := hE2.trans hal
       have hsz : (xs.length + (crcB xs).length) * 1 ≤ 140737488355328 := by rw [crcB_len]; omega
       refine own_append u8 (by decide) rfl _ _ 22 5 (.int .u8 0) 1 rfl Try.underlying22 info_u8 rfl (by decide) rfl rfl (hE2.size) ho (by simp) (hlit.rd (S' := [κ + 1]) (by simp) (by simp)) (fun x cs _ hK => kint_any hK) hsz ?_
       intro vv w3 ho3 he hb
       have hE3 := hE2.later (Nat.le_refl _) (ho.below hb (hE2.size)) he.col
       obtain ⟨A3, cap3, rfl⟩ := ho3.slice
       clear ho hE2 he hb hlit hal))
  go_ret
  exact ⟨_, _, _, rfl, by have := ho3; rw [List.length_append, crcB_len] at this; exact this, hE3⟩
end Go.Proofs.Ytkchcihglpcmiaa.Link
