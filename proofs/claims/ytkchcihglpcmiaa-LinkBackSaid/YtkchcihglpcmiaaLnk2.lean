/- Chapter 14: does a sum fit; how long a frame is; a frame's data. -/
import Derived.Test.YtkchcihglpcmiaaLnk1
namespace Go.Proofs.Ytkchcihglpcmiaa.Link
open Go.RowKit Go.Proofs.Ytkchcihglpcmiaa.Sk Go.Proofs.Ytkchcihglpcmiaa.Num Go.Proofs.Ytkchcihglpcmiaa.Wire Go.Proofs.Ytkchcihglpcmiaa.PLk
open Go.Proofs.YtkchcihglpcmiaaW.PrintWords Go.Proofs.YtkchcihglpcmiaaW.PrintLast Go.Proofs.YtkchcihglpcmiaaW.PrintMore
attribute [local go_sem] max2i min2i max2v min2v

theorem equal_calls (xs ys : List Int) (A A' : Option Addr) (cap cap' : Nat) (w : World) (c : Col) (S S' : List Nat) (hx : Rd u8 w c S (.slice A xs.length cap) xs) (hy : Rd u8 w c S' (.slice A' ys.length cap') ys) :
    Calls Try.prog 35 #[.slice A xs.length cap, .slice A' ys.length cap'] w fun e w' => e = .returned (.bool (decide (xs = ys))) ∧ Ext [] w c w' c := by
  obtain ⟨_, _, e, hc⟩ := hx.slice
  injection e with _ _ e
  obtain ⟨_, _, e', hc'⟩ := hy.slice
  injection e' with _ _ e'
  refine (bytes_Equal.calls A cap xs A' cap' ys (decide (xs = ys)) w (kd_of_rd hx) (by omega) (kd_of_rd hy) (by omega) ?_).mono ?_
  · show some _ = _
    rw [str_eq xs ys (Rd.bytes8 hx) (Rd.bytes8 hy)]
  · rintro e w' ⟨rfl, ⟨nd, rfl⟩⟩
    exact ⟨rfl, (Ext.refl _ _ _).drewN nd⟩
/-- Are the last two bytes the sum of those ahead? -/
def fitsV (xs : List Int) : Bool := decide (xs.take (xs.length - 2) ++ crcB (xs.take (xs.length - 2)) = xs)
set_option maxHeartbeats 1600000 in
theorem fits_calls (xs : List Int) (A : Option Addr) (cap : Nat) (w : World) (c : Col) (S : List Nat) (hx : Rd u8 w c S (.slice A xs.length cap) xs) (h2 : 2 ≤ xs.length) (hl : xs.length ≤ 1000000) :
    Calls Try.prog 32 #[.slice A xs.length cap] w fun e w' => ∃ c', e = .returned (.bool (fitsV xs)) ∧ Ext [] w c w' c' := by
  have hE0 := Ext.refl [] w c
  obtain ⟨m, hm⟩ : ∃ m, xs.length = m + 2 := ⟨xs.length - 2, by omega⟩
  have hcc : xs.length ≤ cap := by obtain ⟨_, _, e, h⟩ := hx.slice; injection e with _ _ e; omega
  obtain ⟨A3, hcut, hrd⟩ := cut_h (P := Try.prog) u8 22 5 _ _ Try.underlying22 info_u8 A xs.length cap .i64 ((xs.length : Int) - 2) m (by omega) (by omega) hcc
  have hr := hrd w c S xs hx
  have hml : (xs.take m).length = m := by rw [List.length_take]; omega
  have hf : fitsV xs = decide (xs.take m ++ crcB (xs.take m) = xs) := by unfold fitsV; rw [show xs.length - 2 = m by omega]
  rw [hf]
  generalize hxs : xs.take m = zs at *
  have HS := Lib.hid hrd
  have HX := Lib.hid hxs
  have HM := Lib.hid hm
  clear hrd hxs hf hm
  subst hml
  have h2' := Lib.hid h2
  clear h2
  go_enter Try.func32, Try.ntmps32
  go_wp2_with (first
    | (go_at_call 30
       have htok := hE0
       clear htok
       refine (summed_calls zs A3 _ w c S (S.foldr max 0 + 1) hr (by have := HM.out; omega) (notin_max S)).mono ?_
       rintro e w1 ⟨A1, cap1, c1, rfl, ho, he⟩
       have hE1 := hE0.trans he
       replace hx := hx.ext he (by simp)
       have ho1 : Rd u8 w1 c1 [S.foldr max 0 + 1] (.slice A1 (zs ++ crcB zs).length cap1) (zs ++ crcB zs) := by rw [List.length_append, crcB_len]; exact ho.rd (by simp) (by simp)
       clear hE0 he ho)
    | (go_at_call 35
       have htok := hE1
       clear htok
       have hQ := equal_calls (zs ++ crcB zs) xs A1 A cap1 cap w1 c1 _ S ho1 hx
       simp only [List.length_append, crcB_len] at hQ
       refine hQ.mono ?_
       rintro e w2 ⟨rfl, he⟩
       have hE2 := hE1.trans he
       clear hE1 he hQ))
  go_ret
  exact ⟨_, rfl, hE2⟩
/-- How long a frame is whose header tells this length. -/
def sizeV (n : Nat) : Nat := 10 + n + 2 * ((n + 15) / 16)
theorem size_calls (L : Int) (n : Nat) (hL : L = n + 5) (hn : n ≤ 1000) (w : World) (c : Col) : Calls Try.prog 33 #[.int .i64 L] w fun e w' => e = .returned (.int .i64 (sizeV n : Nat)) ∧ Ext [] w c w' c := by
  subst hL
  refine (link_size.calls _ (sizeV n : Nat) w ?_).mono ?_
  · unfold link_size.f sizeV
    have w1 : ∀ x : Int, -9223372036854775808 ≤ x → x ≤ 9223372036854775807 → wrap64 x = x := fun x h0 h1 => w64 h0 h1
    have e0 : wrap64 ((n : Int) + 5 - 5) = n := by rw [w1 _ (by omega) (by omega)]; omega
    rw [e0]
    have e1 : wrap64 (wrap64 ((n : Int) + 16) - 1) = n + 15 := by rw [w1 ((n : Int) + 16) (by omega) (by omega), w1 _ (by omega) (by omega)]; omega
    rw [e1]
    have e2 : Int.tdiv ((n : Int) + 15) 16 = ((n + 15) / 16 : Nat) := by rw [Int.tdiv_eq_ediv_of_nonneg (by omega)]; omega
    rw [e2, w1 (((n + 15) / 16 : Nat) : Int) (by omega) (by omega), w1 (2 * (((n + 15) / 16 : Nat) : Int)) (by omega) (by omega), w1 (10 + (n : Int)) (by omega) (by omega), w1 _ (by omega) (by omega)]
    congr 1
  · rintro e w' ⟨rfl, ⟨nd, rfl⟩⟩
    exact ⟨rfl, (Ext.refl _ _ _).drewN nd⟩
/-- A frame's data; where a block's sum doesn't fit, -1: nowhere. -/
def dataV : Nat → Nat → List Int → List Int → List Int × Int
  | 0, _, _, out => (out, -1)
  | f + 1, at', ys, out => if ys = [] then (out, -1) else if fitsV (ys.take 18) = true then dataV f (at' + 18) (ys.drop 18) (out ++ (ys.take 18).take ((ys.take 18).length - 2)) else ([], at')
def dataF (xs : List Int) : List Int × Int := dataV xs.length 10 (xs.drop 10) []
end Go.Proofs.Ytkchcihglpcmiaa.Link
