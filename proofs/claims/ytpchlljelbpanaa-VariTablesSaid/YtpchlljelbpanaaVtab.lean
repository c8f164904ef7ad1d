/- Chapter 18: the document's tables. -/
import Derived.Test.YtpchlljelbpanaaVfst
namespace Go.Proofs.Ytpchlljelbpanaa.Vari
open Go.RowKit Go.Proofs.Ytpchlljelbpanaa.Sk Go.Proofs.Ytpchlljelbpanaa.Num Go.Proofs.Ytpchlljelbpanaa.Wire Go.Proofs.Ytpchlljelbpanaa.PVariTables
open Go.Proofs.YtpchlljelbpanaaW.PrintWords Go.Proofs.YtpchlljelbpanaaW.PrintLast Go.Proofs.YtpchlljelbpanaaW.PrintMore

/-- What the document's Static tells. -/
def statV (k : Int) : Int × Int := if k = 1 then (1, 2) else if k = 2 then (3, 2) else if k = 3 then (30, 1) else if k = 4 then (20, 1) else if k = 5 then (21, 1) else if k = 6 then (10, 2) else if k = 7 then (40, 1) else (0, 0)
set_option maxRecDepth 100000 in
set_option maxHeartbeats 3200000 in
theorem stat_in (k : Int) (h : k = 1 ∨ k = 2 ∨ k = 3 ∨ k = 4 ∨ k = 5 ∨ k = 6 ∨ k = 7) (w : World) : Calls Try.prog 25 #[.int .i64 k] w fun e w' => e = .returned (.tuple #[.int .i64 (statV k).1, .int .i64 (statV k).2]) ∧ Below w.heap.size w w' := by
  rcases h with rfl | rfl | rfl | rfl | rfl | rfl | rfl
  all_goals
    go_enter Try.func25, Try.ntmps25
    go_wp2
    go_quiet (fail)
    go_wp2
    go_ret2
    refine ⟨rfl, ?_⟩
    repeat (first | exact Below.refl _ _ | apply below_drew | apply pw_below_drewN | apply below_drew1 | apply below_alloc | (refine Below.setCell ?_ (Nat.le_refl _) _))
/-- What the document's Event tells. -/
def eventV (k : Int) : Int × Int := if k = 1 then (2, 2) else if k = 2 then (4, 2) else if k = 3 then (32, 3) else if k = 4 then (22, 5) else (0, 0)
set_option maxRecDepth 100000 in
set_option maxHeartbeats 3200000 in
theorem event_in (k : Int) (h : k = 1 ∨ k = 2 ∨ k = 3 ∨ k = 4) (w : World) : Calls Try.prog 27 #[.int .i64 k] w fun e w' => e = .returned (.tuple #[.int .i64 (eventV k).1, .int .i64 (eventV k).2]) ∧ Below w.heap.size w w' := by
  rcases h with rfl | rfl | rfl | rfl
  all_goals
    go_enter Try.func27, Try.ntmps27
    go_wp2
    go_quiet (fail)
    go_wp2
    go_ret2
    refine ⟨rfl, ?_⟩
    repeat (first | exact Below.refl _ _ | apply below_drew | apply pw_below_drewN | apply below_drew1 | apply below_alloc | (refine Below.setCell ?_ (Nat.le_refl _) _))
theorem stat_low (k : Int) (h : k < 1) (w : World) : Calls Try.prog 25 #[.int .i64 k] w fun e w' => e = .returned (.tuple #[.int .i64 0, .int .i64 0]) ∧ Below w.heap.size w w' := by
  have d : decide (k < 1) = true := decide_eq_true h
  clear h
  go_enter Try.func25, Try.ntmps25
  go_wp2
  go_ret2
  exact ⟨rfl, Below.refl _ _⟩
theorem stat_high (k : Int) (h : 7 < k) (w : World) : Calls Try.prog 25 #[.int .i64 k] w fun e w' => e = .returned (.tuple #[.int .i64 0, .int .i64 0]) ∧ Below w.heap.size w w' := by
  have d : decide (k < 1) = false := decide_eq_false (by omega)
  have d2 : decide (7 < k) = true := decide_eq_true h
  clear h
  go_enter Try.func25, Try.ntmps25
  go_wp2
  go_ret2
  exact ⟨rfl, Below.refl _ _⟩
theorem event_low (k : Int) (h : k < 1) (w : World) : Calls Try.prog 27 #[.int .i64 k] w fun e w' => e = .returned (.tuple #[.int .i64 0, .int .i64 0]) ∧ Below w.heap.size w w' := by
  have d : decide (k < 1) = true := decide_eq_true h
  clear h
  go_enter Try.func27, Try.ntmps27
  go_wp2
  go_ret2
  exact ⟨rfl, Below.refl _ _⟩
theorem event_high (k : Int) (h : 4 < k) (w : World) : Calls Try.prog 27 #[.int .i64 k] w fun e w' => e = .returned (.tuple #[.int .i64 0, .int .i64 0]) ∧ Below w.heap.size w w' := by
  have d : decide (k < 1) = false := decide_eq_false (by omega)
  have d2 : decide (4 < k) = true := decide_eq_true h
  clear h
  go_enter Try.func27, Try.ntmps27
  go_wp2
  go_ret2
  exact ⟨rfl, Below.refl _ _⟩
end Go.Proofs.Ytpchlljelbpanaa.Vari
