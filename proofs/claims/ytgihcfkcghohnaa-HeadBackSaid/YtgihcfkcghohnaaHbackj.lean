/- HeadBack: its walks, joined. -/
import Derived.Test.YtgihcfkcghohnaaHback
namespace Go.Proofs.Ytgihcfkcghohnaa.Head
open Go.RowKit Go.Proofs.Ytgihcfkcghohnaa.Sk Go.Proofs.Ytgihcfkcghohnaa.Num Go.Proofs.Ytgihcfkcghohnaa.Wire
theorem headBack_walk (g v q f l n : Int) (xs ys : List Int) (A1 A2 : Option Addr) (cap1 cap2 : Nat) (at' : Int) (ha : -9223372036854775808 ≤ at' ∧ at' ≤ 9223372036854775807) (w : World)
    (hx : Rd u8 w (fun _ => 0) [0] (.slice A1 xs.length cap1) xs) (hy : Rd u8 w (fun _ => 0) [0] (.slice A2 ys.length cap2) ys) :
    Calls Try.prog 3 #[.agg #[.int .i64 g, .int .i64 v, .int .i64 q, .int .i64 f, .int .i64 l, .int .i64 n], .slice A1 xs.length cap1, .slice A2 ys.length cap2, .int .i64 at'] w (GoodB w) := by
  by_cases h1 : 6000 < xs.length
  · exact hbA g v q f l n xs ys A1 A2 cap1 cap2 at' w h1
  by_cases h2 : 6000 < ys.length
  · exact hbB g v q f l n xs ys A1 A2 cap1 cap2 at' w ⟨by omega, h2⟩
  have hl : xs.length ≤ 6000 ∧ ys.length ≤ 6000 := ⟨by omega, by omega⟩
  have hyr : ∀ x, x ∈ ys → 0 ≤ x ∧ x ≤ 255 := fun x hx => rngu8 (hy.range x hx)
  have hxr : ∀ x, x ∈ xs → 0 ≤ x ∧ x ≤ 255 := fun x hx' => rngu8 (hx.range x hx')
  have Q2 : ∀ (h' : Hdr) (m : Int), parseS ys at' = .ok (h', m) → Hid (∀ w c, Rd u8 w c [0] (.slice A2 ys.length cap2) ys → Calls Try.prog 11 #[.slice A2 ys.length cap2, .int .i64 at'] w fun e w' => ∃ c', e = .returned (.tuple #[h'.val, .int .i64 m, .nilIface]) ∧ Ext [] w c w' c') := fun h' m hp w c hr => by
    have := parse_calls ys at' _ w c [0] 1 hr (by omega) ha
    unfold ParsePost at this
    rw [hp] at this
    exact this
  have E2 : ∀ (k : Int), parseS ys at' = .error k → Hid (∀ w c, Rd u8 w c [0] (.slice A2 ys.length cap2) ys → Calls Try.prog 11 #[.slice A2 ys.length cap2, .int .i64 at'] w fun e w' => ∃ v' c', e = .returned (.tuple #[.agg #[.int .i64 0, .int .i64 0, .int .i64 0, .int .i64 0, .int .i64 0, .int .i64 0], .int .i64 0, v']) ∧ EK w' c' [1] (.fail ⟨#[104, 101, 97, 100]⟩ at' (.code k)) v' ∧ Ext [] w c w' c') := fun k hp w c hr => by
    have := parse_calls ys at' _ w c [0] 1 hr (by omega) ha
    unfold ParsePost at this
    rw [hp] at this
    exact this
  by_cases hm : (Hdr.mk g v q f l n).may
  · have M : Hid (∀ w c, Calls Try.prog 9 #[.agg #[.int .i64 g, .int .i64 v, .int .i64 q, .int .i64 f, .int .i64 l, .int .i64 n]] w fun e w' => ∃ c', e = .returned (.bool true) ∧ Ext [] w c w' c') := fun w c => (may_calls ⟨g, v, q, f, l, n⟩ w c 0).mono (fun e w' ⟨c', he, hx⟩ => ⟨c', by rw [he, decide_eq_true hm], hx⟩)
    have Q1 : Hid (∀ w c V, Rd u8 w c [2] V (xs ++ (Hdr.mk g v q f l n).bytes ++ ys) → Calls Try.prog 11 #[V, .int .i64 xs.length] w fun e w' => ∃ c', e = .returned (.tuple #[.agg #[.int .i64 g, .int .i64 v, .int .i64 q, .int .i64 f, .int .i64 l, .int .i64 n], .int .i64 (xs.length + (Hdr.mk g v q f l n).bytes.length : Int), .nilIface]) ∧ Ext [] w c w' c') := fun w c V hr => by
      have hb := bytes_len _ hm
      have := parse_calls _ xs.length V w c [2] 1 hr (by simp only [List.length_append]; omega) (by omega)
      unfold ParsePost at this
      rw [parse_back _ hm xs ys] at this
      exact this
    have hP : Hid (∀ w c, Calls Try.prog 8 #[.agg #[.int .i64 g, .int .i64 v, .int .i64 q, .int .i64 f, .int .i64 l, .int .i64 n]] w fun e w' => ∃ A cap c', e = .returned (.tuple #[.slice A (Hdr.mk g v q f l n).bytes.length cap, .nilIface]) ∧ Own u8 5 w' c' 1 [] w.heap.size (.slice A (Hdr.mk g v q f l n).bytes.length cap) (Hdr.mk g v q f l n).bytes ∧ Ext [] w c w' c') := fun w c => print_ok ⟨g, v, q, f, l, n⟩ w c 1 hm
    have hPl : Hid (∀ w c, Calls Try.prog 12 #[.agg #[.int .i64 g, .int .i64 v, .int .i64 q, .int .i64 f, .int .i64 l, .int .i64 n]] w fun e w' => ∃ c', e = .returned (.agg #[.int .i64 g, .int .i64 v, .int .i64 q, .int .i64 f, .int .i64 l, .int .i64 n]) ∧ Ext [] w c w' c') := fun w c => plain_calls ⟨g, v, q, f, l, n⟩ w c 0
    cases hq : parseS ys at' with
    | error k => exact hbm10 g v q f l n k xs ys _ A1 A2 cap1 cap2 at' w hl hx hy hP M (bytes_len _ hm) Q1 hPl (E2 k hq)
    | ok r =>
      obtain ⟨⟨yg, yv, yq, yf, yl, yn⟩, m⟩ := r
      obtain ⟨f1, f2, rfl, f4, f5⟩ := parse_fwd ys hyr at' _ m hq
      exact hbm11 g v q f l n yg yv yq yf yl yn xs ys _ _ A1 A2 cap1 cap2 at' w hl hx hy hP M (bytes_len _ hm) Q1 hPl (Q2 _ _ hq) (fun w c => print_ok ⟨yg, yv, yq, yf, yl, yn⟩ w c 1 f1) ⟨f2, f4⟩ f5
  · have M : Hid (∀ w c, Calls Try.prog 9 #[.agg #[.int .i64 g, .int .i64 v, .int .i64 q, .int .i64 f, .int .i64 l, .int .i64 n]] w fun e w' => ∃ c', e = .returned (.bool false) ∧ Ext [] w c w' c') := fun w c => (may_calls ⟨g, v, q, f, l, n⟩ w c 0).mono (fun e w' ⟨c', he, hx⟩ => ⟨c', by rw [he, decide_eq_false hm], hx⟩)
    have hP : Hid (∀ w c, Calls Try.prog 8 #[.agg #[.int .i64 g, .int .i64 v, .int .i64 q, .int .i64 f, .int .i64 l, .int .i64 n]] w fun e w' => ∃ v' c', e = .returned (.tuple #[.slice none 0 0, v']) ∧ EK w' c' [1] (.fail ⟨#[104, 101, 97, 100]⟩ q (.code (if (widthV q).2.2 = true then 1 else 6))) v' ∧ Ext [] w c w' c') := fun w c => print_bad ⟨g, v, q, f, l, n⟩ w c 1 hm
    cases hq : parseS ys at' with
    | error k => exact hbm00 g v q f l n k xs ys A1 A2 cap1 cap2 at' w hl hx hy hP M (E2 k hq)
    | ok r =>
      obtain ⟨⟨yg, yv, yq, yf, yl, yn⟩, m⟩ := r
      obtain ⟨f1, f2, rfl, f4, f5⟩ := parse_fwd ys hyr at' _ m hq
      exact hbm01 g v q f l n yg yv yq yf yl yn xs ys _ A1 A2 cap1 cap2 at' w hl hx hy hP M (Q2 _ _ hq) (fun w c => print_ok ⟨yg, yv, yq, yf, yl, yn⟩ w c 1 f1) ⟨f2, f4⟩ f5
end Go.Proofs.Ytgihcfkcghohnaa.Head
