/- Contracts of fail.In and bytes.Clone, over this seat's translation. -/
import Derived.Test.YtkchcihglpcmiaaSk
import Derived.Test.YtkchcihglpcmiaaProg
import Derived.Test.YtkchcihglpcmiaaNum
import Derived.WalkSpells
import Derived.Outline
import Derived.Deep.RegionHeld3
import Derived.BigQuiet
import Derived.Deep.QuietTactic
import Derived.StillTailTactics
import Derived.IntWalk
namespace Go.Proofs.Ytkchcihglpcmiaa.Wire
open Go.RowKit Go.Proofs.Ytkchcihglpcmiaa.Sk Go.Proofs.Ytkchcihglpcmiaa.Num

abbrev EK := ErK 59 87
set_option maxHeartbeats 400000 in
theorem in_calls (s : ByteArray) (p : Int) (x : Er) (v : Value) (w : World) (c : Col) (S : List Nat) (κ : Nat) (hk : κ ∈ S) (hx : EK w c S x v) :
    Calls Try.prog 42 #[.string s, .int .i64 p, v] w fun e w' => ∃ v' c', e = .returned v' ∧ EK w' c' S (x.inn s p) v' ∧ Ext [] w c w' c' := by
  rcases hx.isNil with ⟨rfl, rfl⟩ | ⟨hn, t, u, rfl⟩
  · go_enter Try.func42, Try.ntmps42
    go_wp2
    go_ret
    exact ⟨_, c, rfl, rfl, Ext.refl _ _ _⟩
  · have hE := Ext.alloc [] w c (.cells #[.string s, .int .i64 p, .iface t u] 89) κ
    have hx' := hx.ext hE (by simp)
    go_enter Try.func42, Try.ntmps42
    go_wp2
    go_ret
    refine ⟨_, _, rfl, ?_, hE⟩
    have : x.inn s p = .fail s p x := by cases x <;> first | rfl | exact absurd rfl hn
    rw [this]
    exact ⟨w.heap.size, _, rfl, by rw [cx_new (Nat.le_refl _)]; exact hk, by simp [World.cell?_alloc_new], by simp [World.cell?_alloc_new], by simp [World.cell?_alloc_new], hx'⟩

abbrev u8 := kint .u8
theorem info_u8 : (Try.prog.info? 5).map (fun i => (i.zero, i.size, i.bytes)) = some (some (.int .u8 0), 1, 1) := by kernel_rfl
set_option maxHeartbeats 400000 in
theorem clone_calls (xs : List Int) (v : Value) (w : World) (c : Col) (S : List Nat) (κ : Nat) (hx : Rd u8 w c S v xs) (hl : xs.length ≤ 140737488355328) :
    Calls Try.prog 36 #[v] w fun e w' => ∃ A cap c', e = .returned (.slice A xs.length cap) ∧ Own u8 5 w' c' κ [] w.heap.size (.slice A xs.length cap) xs ∧ Ext [] w c w' c' := by
  obtain ⟨A, cap, rfl, h1, h2, h3⟩ := hx.form
  have hnil := fun w a n c => Lib.run_eql_slice_nil (P := Try.prog) w 22 5 a n c 0 0 Try.underlying22
  rcases A with _ | ad
  · have h0 : xs = [] := by
      rcases Nat.eq_zero_or_pos xs.length with h0 | h0
      · exact List.eq_nil_of_length_eq_zero h0
      · obtain ⟨b, o, h, _⟩ := h3 h0; cases h
    clear h3
    subst h0
    go_enter Try.func36, Try.ntmps36
    go_wp2
    go_ret
    exact ⟨none, 0, c, rfl, Own.nil _ _ _ _ _ _ _, Ext.refl _ _ _⟩
  · clear h3
    have hE := Ext.alloc [] w c (.cells #[] 5) κ
    have h0 : Own u8 5 (w.alloc (.cells #[] 5)) (cx c w.heap.size κ) κ [] w.heap.size (.slice (some ⟨w.heap.size, 0, none⟩) 0 0) [] := Own.ints .u8 _ w c κ [] [] (by simp) (by simp)
    have hx' := hx.ext hE (by simp)
    go_enter Try.func36, Try.ntmps36
    go_wp2_with (at_builtin; refine own_append u8 (by decide) rfl _ _ 22 5 (.int .u8 0) 1 rfl Try.underlying22 info_u8 rfl (by decide) rfl rfl (by simp) h0 (by simp) hx' (fun x cs _ hK => kint_any hK) (by simpa using hl) ?_; intro v' w' ho he hb; rw [List.nil_append] at ho; obtain ⟨A', cap', rfl⟩ := ho.slice)
    go_ret
    exact ⟨_, _, _, rfl, ho, hE.later (Nat.le_refl _) (h0.below hb (by simp)) he.col⟩


end Go.Proofs.Ytkchcihglpcmiaa.Wire
