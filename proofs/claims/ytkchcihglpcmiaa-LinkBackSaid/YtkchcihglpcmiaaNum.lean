/- Plain mathematics of little numbers: bytes as a number, or, and, shifts. No program in it. -/
import Derived.WalkKit
import Derived.Laws.BitsLemmas
namespace Go.Proofs.Ytkchcihglpcmiaa.Num
open Go.RowKit

theorem w64 {x : Int} (h0 : -9223372036854775808 ≤ x) (h1 : x ≤ 9223372036854775807) : wrap64 x = x := by
  unfold wrap64; omega
theorem i64w (x : Int) : IntKind.i64.wrap x = wrap64 x := by
  rw [IntKind.wrap_i64]; unfold wrap64; rfl
theorem i64id {x : Int} (h0 : -9223372036854775808 ≤ x) (h1 : x ≤ 9223372036854775807) : IntKind.i64.wrap x = x := by rw [i64w, w64 h0 h1]
/-- Bytes as a number, the least first. -/
def le : List Int → Int
  | [] => 0
  | x :: xs => x + 256 * le xs
theorem le_snoc (xs : List Int) (x : Int) : le (xs ++ [x]) = le xs + x * 256 ^ xs.length := by
  induction xs with
  | nil => simp [le]
  | cons y ys ih => simp only [List.cons_append, le, ih, List.length_cons, Int.pow_succ]; rw [Int.mul_add, ← Int.add_assoc, Int.mul_comm (256 ^ ys.length) 256, Int.mul_left_comm]
theorem le_range (xs : List Int) (h : ∀ x, x ∈ xs → 0 ≤ x ∧ x ≤ 255) : 0 ≤ le xs ∧ le xs < 256 ^ xs.length := by
  induction xs with
  | nil => simp [le]
  | cons y ys ih =>
    have h1 := ih (fun x hx => h x (List.mem_cons_of_mem _ hx))
    have h2 := h y (by simp)
    simp only [le, List.length_cons, Int.pow_succ]
    omega
theorem wraps_i64 (n : Int) (h₀ : 0 ≤ n) (h₁ : n < 2 ^ 62) : IntKind.i64.wrap n = n := by rw [IntKind.wrap_i64]; omega
theorem bits_or_comm (x y : Int) : Go.bits .or .i64 x y = Go.bits .or .i64 y x := by
  have e : ∀ a b : Int, Go.bits .or .i64 a b = IntKind.i64.wrap (((BitVec.ofInt 64 a) ||| (BitVec.ofInt 64 b)).toNat : Int) := fun _ _ => rfl
  rw [e, e, BitVec.or_comm]
/-- A number or what lies above its bits. -/
theorem or_hi (i : Nat) (n x : Int) (h0 : 0 ≤ n) (h1 : n < 2 ^ i) (h2 : 0 ≤ x) (hi : i ≤ 62) (hx : x * 2 ^ i < 2 ^ 62) : Go.bits .or .i64 n (x * 2 ^ i) = n + x * 2 ^ i := by
  have hp : (2 : Int) ^ i ≤ 2 ^ 62 := by
    have := Nat.pow_le_pow_right (show 0 < 2 by decide) hi
    have e : ∀ j : Nat, (2 : Int) ^ j = ((2 ^ j : Nat) : Int) := fun j => by simp
    rw [e, e]; exact Int.ofNat_le.mpr this
  rw [bits_or_comm, bits_join .i64 62 (by decide) wraps_i64 i (x * 2 ^ i) n (Int.mul_nonneg h2 (Int.le_of_lt (Int.pow_pos (by decide)))) (by simp) hx h0 h1 (by omega), Int.add_comm]
theorem pow256 (k : Nat) : (256 : Int) ^ k = 2 ^ (8 * k) := by
  rw [Int.pow_mul]; rfl
theorem pow_le {a b : Nat} (h : a ≤ b) : (2 : Int) ^ a ≤ 2 ^ b := by
  have := Nat.pow_le_pow_right (show 0 < 2 by decide) h
  have e : ∀ j : Nat, (2 : Int) ^ j = ((2 ^ j : Nat) : Int) := fun j => by simp
  rw [e, e]; exact Int.ofNat_le.mpr this
/-- A round of the loop that makes a number of bytes. -/
theorem le_round (xs : List Int) (x : Int) (h : ∀ y, y ∈ xs → 0 ≤ y ∧ y ≤ 255) (hx : 0 ≤ x ∧ x ≤ 255) (hl : xs.length < 7) :
    Go.bits .or .i64 (le xs) (x * 2 ^ (8 * xs.length)) = le (xs ++ [x]) ∧ 0 ≤ x * 2 ^ (8 * xs.length) ∧ x * 2 ^ (8 * xs.length) ≤ 9223372036854775807 := by
  obtain ⟨h0, h1⟩ := le_range xs h
  rw [pow256] at h1
  have hp := pow_le (show 8 * xs.length ≤ 48 by omega)
  have hp0 : (0 : Int) < 2 ^ (8 * xs.length) := Int.pow_pos (by decide)
  have hm : x * 2 ^ (8 * xs.length) ≤ 255 * 2 ^ (8 * xs.length) := Int.mul_le_mul_of_nonneg_right hx.2 (by omega)
  have hn : 0 ≤ x * 2 ^ (8 * xs.length) := Int.mul_nonneg hx.1 (by omega)
  refine ⟨?_, hn, by omega⟩
  rw [or_hi (8 * xs.length) (le xs) x h0 h1 hx.1 (by omega) (by omega), le_snoc, pow256]
/-- The lowest n bytes of a number, the least first. -/
def leB : Nat → Int → List Int
  | 0, _ => []
  | n + 1, v => v % 256 :: leB n (v / 256)
theorem leB_length (n : Nat) (v : Int) : (leB n v).length = n := by
  induction n generalizing v with
  | zero => rfl
  | succ n ih => simp [leB, ih]
theorem leB_range (n : Nat) (v : Int) : ∀ x, x ∈ leB n v → 0 ≤ x ∧ x ≤ 255 := by
  induction n generalizing v with
  | zero => simp [leB]
  | succ n ih =>
    intro x hx
    rcases List.mem_cons.1 hx with h | h
    · subst h; omega
    · exact ih _ x h
theorem leB_get (n : Nat) (v : Int) (i : Nat) (h : i < n) : (leB n v)[i]? = some (v / 2 ^ (8 * i) % 256) := by
  induction n generalizing v i with
  | zero => omega
  | succ n ih =>
    cases i with
    | zero => simp [leB]
    | succ i =>
      simp only [leB, List.getElem?_cons_succ]
      rw [ih (v / 256) i (by omega), Nat.mul_add, Int.pow_add, Int.mul_comm, ← Int.ediv_ediv_of_nonneg (by decide)]
      rfl
end Go.Proofs.Ytkchcihglpcmiaa.Num
