/- Bridges between what is read here and what printed contracts say of slices; CopyBytes and Bytes of the statements' own package. -/
import Derived.Test.YtkchcihglpcmiaaBase
import Derived.Test.YtkchcihglpcmiaaWWords
namespace Go.Proofs.Ytkchcihglpcmiaa.Wire
open Go.RowKit Go.Proofs.Ytkchcihglpcmiaa.Sk Go.Proofs.Ytkchcihglpcmiaa.Num
open Go.Proofs.YtkchcihglpcmiaaW.PrintWords

theorem kd_of_rd {w : World} {c : Col} {S : List Nat} {A : Option Addr} {n cap : Nat} {xs : List Int} (h : Rd u8 w c S (.slice A n cap) xs) : (Kd.int .u8).C w A n xs := by
  obtain ⟨A', cap', e, h1, h2, h3⟩ := h.form
  injection e with e1 e2 e3
  subst e1 e2 e3
  refine Kd.C_of_reads (enc := Value.int .u8) (d := (0 : Int)) (h1 := fun _ => rfl) ⟨rfl, by omega, fun hp => ?_⟩
  obtain ⟨b, o, rfl, _, _, hx⟩ := h3 hp
  refine ⟨_, rfl, fun j hj => ?_⟩
  obtain ⟨cs, hk, hc⟩ := hx j xs[j] (List.getElem?_eq_getElem hj)
  have := hc 0 (.int .u8 xs[j]) (by rw [hk.1]; rfl)
  rw [List.getD_eq_getElem?_getD, List.getElem?_eq_getElem hj]
  rw [Go.WideShapes.add_plain]
  simpa [kint] using this
theorem rd_of_kd {w : World} {A : Option Addr} {n cap : Nat} {xs : List Int} (h : (Kd.int .u8).C w A n xs) (hl : n ≤ cap) (hr : ∀ x, x ∈ xs → 0 ≤ x ∧ x ≤ 255) : Rd u8 w (fun _ => 0) [0] (.slice A n cap) xs := by
  obtain ⟨rfl, hm, h3⟩ := Kd.reads_of_C (enc := Value.int .u8) (d := (0 : Int)) (h1 := fun _ => rfl) h
  refine ⟨A, cap, rfl, hl, hm, fun hp => ?_⟩
  obtain ⟨ad, rfl, hc⟩ := h3 hp
  obtain ⟨b, o, spot⟩ := ad
  have hspot : spot = none := by simpa [Addr.add] using World.cell?_spot (hc 0 hp)
  subst hspot
  refine ⟨b, o, rfl, World.block_lt_of_cell? w _ (hc 0 hp), by simp, fun j x hj => ?_⟩
  have hjl : j < xs.length := (List.getElem?_eq_some_iff.1 hj).1
  have e := hc j hjl
  rw [List.getD_eq_getElem?_getD, hj] at e
  refine ⟨[.int .u8 x], ⟨rfl, hr x (List.mem_of_getElem? hj)⟩, fun i u hu => ?_⟩
  cases i with
  | zero => simp at hu; subst hu; rw [Go.WideShapes.add_plain] at e; simpa [kint] using e
  | succ i => simp at hu
set_option maxHeartbeats 400000 in
theorem bytes_same (xs : List Int) (A A' : Option Addr) (cap cap' : Nat) (w : World) (c : Col) (S : List Nat) (h : Rd u8 w c S (.slice A xs.length cap) xs) (h' : Rd u8 w c S (.slice A' xs.length cap') xs) :
    Calls Try.prog 14 #[.slice A xs.length cap, .slice A' xs.length cap'] w fun e w' => e = .returned (.bool true) ∧ Ext [] w c w' c := by
  have hcv3 := Kd.C_string (P := Try.prog) (A := A) (c := cap) Try.underlying22 Try.underlying5 Try.underlying9 (kd_of_rd h)
  have hcv4 := Kd.C_string (P := Try.prog) (A := A') (c := cap') Try.underlying22 Try.underlying5 Try.underlying9 (kd_of_rd h')
  clear h h'
  go_enter Try.func14, Try.ntmps14
  go_wp2
  go_ret
  exact ⟨by simp, by repeat (first | exact Ext.refl _ _ _ | apply Ext.drew | apply Ext.drewN)⟩
set_option maxHeartbeats 400000 in
theorem copy_calls (xs : List Int) (v : Value) (w : World) (c : Col) (S : List Nat) (κ : Nat) (hx : Rd u8 w c S v xs) (hl : xs.length ≤ 140737488355328) :
    Calls Try.prog 19 #[v] w fun e w' => ∃ A cap c', e = .returned (.slice A xs.length cap) ∧ Own u8 5 w' c' κ [] w.heap.size (.slice A xs.length cap) xs ∧ Ext [] w c w' c' := by
  obtain ⟨A, cap, rfl, h1, h2, h3⟩ := hx.form
  clear h3
  have hE := Ext.alloc [] w c (.cells #[] 5) κ
  have h0 : Own u8 5 (w.alloc (.cells #[] 5)) (cx c w.heap.size κ) κ [] w.heap.size (.slice (some ⟨w.heap.size, 0, none⟩) 0 0) [] := Own.ints .u8 _ w c κ [] [] (by simp) (by simp)
  have hx' := hx.ext hE (by simp)
  go_enter Try.func19, Try.ntmps19
  go_wp2_with (at_builtin; refine own_append u8 (by decide) rfl _ _ 22 5 (.int .u8 0) 1 rfl Try.underlying22 info_u8 rfl (by decide) rfl rfl (by simp) h0 (by simp) hx' (fun x cs _ hK => kint_any hK) (by simpa using hl) ?_; intro v' w' ho he hb; rw [List.nil_append] at ho; obtain ⟨A', cap', rfl⟩ := ho.slice)
  go_ret
  exact ⟨_, _, _, rfl, ho, hE.later (Nat.le_refl _) (h0.below hb (by simp)) he.col⟩
end Go.Proofs.Ytkchcihglpcmiaa.Wire
