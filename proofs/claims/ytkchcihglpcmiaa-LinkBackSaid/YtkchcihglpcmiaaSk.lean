/- Words for contracts: blocks have colours; what is written has one; what is read of other colours stays. No program in it. -/
import Derived.Below
import Derived.Deep.Draws
import Derived.OwnWalk
import Derived.Laws.MakeOwn
import Derived.Laws.OwnMore
import Derived.WalkKit
import Derived.KernelRfl
import Derived.RowKit3
import Derived.Deep.AppendSrc
import Derived.Maps.AppendAt
import Derived.Lib.Hide
import Derived.Deep.OwnRows
namespace Go.Proofs.Ytkchcihglpcmiaa.Sk
open Go.RowKit

abbrev Col := Nat → Nat

/-- From (w, c) to (w', c') only blocks of the colours M were written; others may be new. -/
structure Ext (M : List Nat) (w : World) (c : Col) (w' : World) (c' : Col) : Prop where
  os : w'.os = w.os
  tape : w'.tape = w.tape
  output : w'.output = w.output
  size : w.heap.size ≤ w'.heap.size
  col : ∀ k, k < w.heap.size → c' k = c k
  keep : ∀ k, k < w.heap.size → c k ∉ M → w'.heap[k]? = w.heap[k]?

theorem Ext.refl (M : List Nat) (w : World) (c : Col) : Ext M w c w c := ⟨rfl, rfl, rfl, Nat.le_refl _, fun _ _ => rfl, fun _ _ _ => rfl⟩
theorem Ext.trans {M : List Nat} {w w1 w2 : World} {c c1 c2 : Col} (h : Ext M w c w1 c1) (k : Ext M w1 c1 w2 c2) : Ext M w c w2 c2 :=
  ⟨k.os.trans h.os, k.tape.trans h.tape, k.output.trans h.output, Nat.le_trans h.size k.size,
   fun i hi => (k.col i (Nat.lt_of_lt_of_le hi h.size)).trans (h.col i hi),
   fun i hi hM => (k.keep i (Nat.lt_of_lt_of_le hi h.size) (by rw [h.col i hi]; exact hM)).trans (h.keep i hi hM)⟩
theorem Ext.mono {M M' : List Nat} {w w1 : World} {c c1 : Col} (h : Ext M w c w1 c1) (hM : ∀ k, k ∈ M → k ∈ M') : Ext M' w c w1 c1 :=
  ⟨h.os, h.tape, h.output, h.size, h.col, fun i hi hn => h.keep i hi (fun hm => hn (hM _ hm))⟩
theorem Ext.drewN {M : List Nat} {w w1 : World} {c c1 : Col} (h : Ext M w c w1 c1) (n : Nat) : Ext M w c (w1.drewN n) c1 := ⟨h.os, h.tape, h.output, h.size, h.col, h.keep⟩
theorem Ext.drew {M : List Nat} {w w1 : World} {c c1 : Col} (h : Ext M w c w1 c1) : Ext M w c w1.drew c1 := ⟨h.os, h.tape, h.output, h.size, h.col, h.keep⟩
/-- What is new has this colour. -/
def cx (c : Col) (n κ : Nat) : Col := fun k => if k < n then c k else κ
theorem cx_old {c : Col} {n κ k : Nat} (h : k < n) : cx c n κ k = c k := if_pos h
theorem cx_new {c : Col} {n κ k : Nat} (h : n ≤ k) : cx c n κ k = κ := if_neg (by omega)
theorem Ext.of_grown {M : List Nat} {w w' : World} {c : Col} {row : Option Nat} (hg : w.grownBy w' row) (hr : ∀ k, row = some k → c k ∈ M) (κ : Nat) : Ext M w c w' (cx c w.heap.size κ) :=
  ⟨hg.os, hg.tape, hg.output, hg.size, fun _ hk => cx_old hk, fun k hk hM => hg.block k hk (fun e => hM (hr k e.symm))⟩
theorem Ext.of_below {w w' : World} {c : Col} (hb : Below w.heap.size w w') (M : List Nat) (κ : Nat) : Ext M w c w' (cx c w.heap.size κ) :=
  ⟨hb.os, hb.tape, hb.output, hb.size, fun _ hk => cx_old hk, fun k hk _ => hb.block k hk⟩
theorem Ext.alloc (M : List Nat) (w : World) (c : Col) (o : Obj) (κ : Nat) : Ext M w c (w.alloc o) (cx c w.heap.size κ) :=
  ⟨rfl, rfl, rfl, by simp, fun _ hk => cx_old hk, fun k hk _ => Below.heap_alloc w o k hk⟩
theorem Ext.set {M : List Nat} {w : World} {c : Col} {a : Addr} (h : c a.block ∈ M) (u : Value) : Ext M w c (w.setCell a u) c :=
  ⟨rfl, rfl, rfl, by simp, fun _ _ => rfl, fun k _ hM => Below.heap_setCell w a u k (fun e => hM (e ▸ h))⟩
/-- At the end: where colour 0 was all and was not written, all that was there is as it was. -/
theorem Ext.below {M : List Nat} {w w' : World} {c' : Col} (h : Ext M w (fun _ => 0) w' c') (h0 : 0 ∉ M) : Below w.heap.size w w' :=
  ⟨h.os, h.tape, h.output, h.size, fun k hk => h.keep k hk h0⟩
theorem Ext.belowAll {w w' : World} {c c' : Col} (h : Ext [] w c w' c') : Below w.heap.size w w' :=
  ⟨h.os, h.tape, h.output, h.size, fun k hk => h.keep k hk (by simp)⟩
theorem Ext.cell {M : List Nat} {w w' : World} {c c' : Col} (h : Ext M w c w' c') {a : Addr} {v : Value} (hc : w.cell? a = some v) (hM : c a.block ∉ M) : w'.cell? a = some v :=
  (World.cell?_of_block (h.keep a.block (World.block_lt_of_cell? w a hc) hM)).trans hc

/-! ### Kinds -/
/-- How a datum lies in cells: all blocks that it leads to have colours of S. -/
structure Kind (α : Type) where
  sz : Nat
  K : World → Col → List Nat → α → List Value → Prop
  len : ∀ {w c S x cs}, K w c S x cs → cs.length = sz
  ext : ∀ {w c S x cs M w' c'}, K w c S x cs → Ext M w c w' c' → (∀ k, k ∈ S → k ∉ M) → K w' c' S x cs
  mono : ∀ {w c S S' x cs}, K w c S x cs → (∀ k, k ∈ S → k ∈ S') → K w c S' x cs
  one : ∀ {w c S x cs}, K w c S x cs → ∀ u, u ∈ cs → u.oneCell' = true
def kint (k : IntKind) : Kind Int where
  sz := 1
  K := fun _ _ _ x cs => cs = [.int k x] ∧ k.min ≤ x ∧ x ≤ k.max
  len := fun h => by rw [h.1]; rfl
  ext := fun h _ _ => h
  mono := fun h _ => h
  one := fun h u hu => by rw [h.1] at hu; simp at hu; subst hu; rfl
def kbool : Kind Bool where
  sz := 1
  K := fun _ _ _ x cs => cs = [.bool x]
  len := fun h => by rw [h]; rfl
  ext := fun h _ _ => h
  mono := fun h _ => h
  one := fun h u hu => by rw [h] at hu; simp at hu; subst hu; rfl
def kstr : Kind ByteArray where
  sz := 1
  K := fun _ _ _ x cs => cs = [.string x]
  len := fun h => by rw [h]; rfl
  ext := fun h _ _ => h
  mono := fun h _ => h
  one := fun h u hu => by rw [h] at hu; simp at hu; subst hu; rfl
def kpair {α β : Type} (d : Kind α) (d' : Kind β) : Kind (α × β) where
  sz := d.sz + d'.sz
  K := fun w c S x cs => ∃ a b, cs = a ++ b ∧ d.K w c S x.1 a ∧ d'.K w c S x.2 b
  len := fun ⟨a, b, e, h, h'⟩ => by rw [e, List.length_append, d.len h, d'.len h']
  ext := fun ⟨a, b, e, h, h'⟩ he hS => ⟨a, b, e, d.ext h he hS, d'.ext h' he hS⟩
  mono := fun ⟨a, b, e, h, h'⟩ hS => ⟨a, b, e, d.mono h hS, d'.mono h' hS⟩
  one := fun ⟨a, b, e, h, h'⟩ u hu => by
    rw [e, List.mem_append] at hu
    exact hu.elim (d.one h u) (d'.one h' u)
def kiso {α β : Type} (d : Kind α) (f : β → α) : Kind β where
  sz := d.sz
  K := fun w c S x cs => d.K w c S (f x) cs
  len := d.len
  ext := d.ext
  mono := d.mono
  one := d.one

/-- A slice that is read: its cells have a colour of S. -/
structure Rd {α : Type} (d : Kind α) (w : World) (c : Col) (S : List Nat) (v : Value) (xs : List α) : Prop where
  form : ∃ A cap, v = .slice A xs.length cap ∧ xs.length ≤ cap ∧ xs.length ≤ 9223372036854775807 ∧
    (0 < xs.length → ∃ b o, A = some ⟨b, o, none⟩ ∧ b < w.heap.size ∧ c b ∈ S ∧
      ∀ j x, xs[j]? = some x → ∃ cs, d.K w c S x cs ∧ ∀ i u, cs[i]? = some u → w.cell? ⟨b, o + j * d.sz + i, none⟩ = some u)
theorem Rd.ext {α : Type} {d : Kind α} {w w' : World} {c c' : Col} {S M : List Nat} {v : Value} {xs : List α} (h : Rd d w c S v xs) (he : Ext M w c w' c') (hS : ∀ k, k ∈ S → k ∉ M) : Rd d w' c' S v xs := by
  obtain ⟨A, cap, e, h1, h2, h3⟩ := h.form
  refine ⟨A, cap, e, h1, h2, fun hp => ?_⟩
  obtain ⟨b, o, ea, hb, hc, hx⟩ := h3 hp
  refine ⟨b, o, ea, Nat.lt_of_lt_of_le hb he.size, by rw [he.col b hb]; exact hc, fun j x hj => ?_⟩
  obtain ⟨cs, hk, hcell⟩ := hx j x hj
  exact ⟨cs, d.ext hk he hS, fun i u hi => he.cell (hcell i u hi) (hS _ hc)⟩
theorem Rd.mono {α : Type} {d : Kind α} {w : World} {c : Col} {S S' : List Nat} {v : Value} {xs : List α} (h : Rd d w c S v xs) (hS : ∀ k, k ∈ S → k ∈ S') : Rd d w c S' v xs := by
  obtain ⟨A, cap, e, h1, h2, h3⟩ := h.form
  refine ⟨A, cap, e, h1, h2, fun hp => ?_⟩
  obtain ⟨b, o, ea, hb, hc, hx⟩ := h3 hp
  refine ⟨b, o, ea, hb, hS _ hc, fun j x hj => ?_⟩
  obtain ⟨cs, hk, hcell⟩ := hx j x hj
  exact ⟨cs, d.mono hk hS, hcell⟩
theorem Rd.nil {α : Type} (d : Kind α) (w : World) (c : Col) (S : List Nat) : Rd d w c S (.slice none 0 0) [] := ⟨none, 0, rfl, by simp, by simp, fun h => absurd h (by simp)⟩
def kslice {α : Type} (d : Kind α) : Kind (List α) where
  sz := 1
  K := fun w c S xs cs => ∃ v, cs = [v] ∧ Rd d w c S v xs
  len := fun ⟨v, e, _⟩ => by rw [e]; rfl
  ext := fun ⟨v, e, h⟩ he hS => ⟨v, e, h.ext he hS⟩
  mono := fun ⟨v, e, h⟩ hS => ⟨v, e, h.mono hS⟩
  one := fun ⟨v, e, h⟩ u hu => by
    obtain ⟨A, cap, ev, _⟩ := h.form
    rw [e] at hu; simp at hu; subst hu; rw [ev]; rfl

/-- The element's cells. -/
theorem Rd.at {α : Type} {d : Kind α} {w : World} {c : Col} {S : List Nat} {v : Value} {xs : List α} (h : Rd d w c S v xs) (i : Int) (h0 : 0 ≤ i) (h1 : i < xs.length) :
    ∃ b o cap x cs, v = .slice (some ⟨b, o, none⟩) xs.length cap ∧ xs.length ≤ cap ∧ xs[i.toNat]? = some x ∧ d.K w c S x cs ∧ ∀ j u, cs[j]? = some u → w.cell? ⟨b, o + i.toNat * d.sz + j, none⟩ = some u := by
  obtain ⟨A, cap, e, hc, _, h3⟩ := h.form
  obtain ⟨b, o, rfl, _, _, hx⟩ := h3 (by omega)
  have hi : i.toNat < xs.length := by omega
  obtain ⟨cs, hk, hcell⟩ := hx i.toNat xs[i.toNat] (List.getElem?_eq_getElem hi)
  exact ⟨b, o, cap, _, cs, e, hc, List.getElem?_eq_getElem hi, hk, hcell⟩

/-- A slice of one's own: it may be appended to and written; its block has the colour κ, what its elements lead to has colours of S. -/
structure Own {α : Type} (d : Kind α) (e : TypeId) (w : World) (c : Col) (κ : Nat) (S : List Nat) (β : Nat) (v : Value) (xs : List α) : Prop where
  form : ∃ cells, w.ownsRow β e d.sz v xs.length cells ∧ (∀ k, v.ownBlock = some k → c k = κ) ∧ ∀ j x, xs[j]? = some x → d.K w c S x ((cells.drop (j * d.sz)).take d.sz)
theorem Own.nil {α : Type} (d : Kind α) (e : TypeId) (w : World) (c : Col) (κ : Nat) (S : List Nat) (β : Nat) : Own d e w c κ S β (.slice none 0 0) ([] : List α) :=
  ⟨[], World.ownsRow_nil w β e d.sz, fun _ h => by simp [Value.ownBlock] at h, fun _ _ h => by simp at h⟩
theorem Own.ext {α : Type} {d : Kind α} {e : TypeId} {w w' : World} {c c' : Col} {κ β : Nat} {S M : List Nat} {v : Value} {xs : List α} (h : Own d e w c κ S β v xs) (he : Ext M w c w' c') (hk : κ ∉ M) (hS : ∀ k, k ∈ S → k ∉ M) : Own d e w' c' κ S β v xs := by
  obtain ⟨cells, ho, hc, hx⟩ := h.form
  have hlt := fun k hk => (ho.lt k hk).2
  refine ⟨cells, ?_, fun k hb => by rw [he.col k (hlt k hb)]; exact hc k hb, fun j x hj => d.ext (hx j x hj) he hS⟩
  refine ⟨ho.1, ?_⟩
  rcases ho.2 with hn | ⟨g, cap, cur, rfl, hb, hgg, rest⟩
  · exact .inl hn
  · refine .inr ⟨g, cap, cur, rfl, hb, ?_, rest⟩
    have hg : g < w.heap.size := hlt g rfl
    rw [he.keep g hg (by rw [hc g rfl]; exact hk)]
    exact hgg
theorem Own.mono {α : Type} {d : Kind α} {e : TypeId} {w : World} {c : Col} {κ β : Nat} {S S' : List Nat} {v : Value} {xs : List α} (h : Own d e w c κ S β v xs) (hS : ∀ k, k ∈ S → k ∈ S') : Own d e w c κ S' β v xs := by
  obtain ⟨cells, ho, hc, hx⟩ := h.form
  exact ⟨cells, ho, hc, fun j x hj => d.mono (hx j x hj) hS⟩
/-- What is one's own can be read. -/
theorem Own.rd {α : Type} {d : Kind α} {e : TypeId} {w : World} {c : Col} {κ β : Nat} {S S' : List Nat} {v : Value} {xs : List α} (h : Own d e w c κ S β v xs) (hk : κ ∈ S') (hS : ∀ k, k ∈ S → k ∈ S') : Rd d w c S' v xs := by
  obtain ⟨cells, ho, hc, hx⟩ := h.form
  rcases ho.2 with ⟨rfl, hn⟩ | ⟨g, cap, cur, rfl, hb, hgg, hle, hcap, hsz, htk⟩
  · rw [List.eq_nil_of_length_eq_zero hn]; exact Rd.nil d w c S'
  · refine ⟨some ⟨g, 0, none⟩, cap, rfl, hle, by have := hcap; simp [maxLen] at this; omega, fun hp => ⟨g, 0, rfl, (Array.getElem?_eq_some_iff.1 hgg).1, by rw [hc g rfl]; exact hk, fun j x hj => ?_⟩⟩
    have hK := hx j x hj
    refine ⟨_, d.mono hK hS, fun i u hi => ?_⟩
    have hl := d.len hK
    have hi' : i < d.sz := by
      have := (List.getElem?_eq_some_iff.1 hi).1
      omega
    rw [List.getElem?_take_of_lt hi', List.getElem?_drop] at hi
    have hcell := ho.cells (g := g) rfl (j * d.sz + i) u hi
    have hadd : (⟨g, 0, none⟩ : Addr).add (j * d.sz + i) = ⟨g, 0 + j * d.sz + i, none⟩ := by unfold Addr.add; split <;> simp_all
    rw [hadd] at hcell
    exact hcell

theorem Own.base {α : Type} {d : Kind α} {e : TypeId} {w : World} {c : Col} {κ β β' : Nat} {S : List Nat} {v : Value} {xs : List α} (h : Own d e w c κ S β v xs) (hb : β' ≤ β) : Own d e w c κ S β' v xs := by
  obtain ⟨cells, ho, hc, hx⟩ := h.form
  refine ⟨cells, ⟨ho.1, ?_⟩, hc, hx⟩
  rcases ho.2 with hn | ⟨g, cap, cur, e1, hg, rest⟩
  · exact .inl hn
  · exact .inr ⟨g, cap, cur, e1, Nat.le_trans hb hg, rest⟩

/-! ### Errors -/
/-- An error: none, a code, or one that came through a place. -/
inductive Er where
  | nil
  | code (n : Int)
  | fail (s : ByteArray) (p : Int) (e : Er)
/-- How an error lies: Tc is the codes' type, Tp the type of the pointers to Fail. -/
def ErK (Tc Tp : TypeId) (w : World) (c : Col) (S : List Nat) : Er → Value → Prop
  | .nil, v => v = .nilIface
  | .code n, v => v = .iface Tc (.int .i64 n)
  | .fail s p e, v => ∃ g ve, v = .iface Tp (.pointer (some ⟨g, 0, none⟩)) ∧ c g ∈ S ∧ w.cell? ⟨g, 0, none⟩ = some (.string s) ∧ w.cell? ⟨g, 1, none⟩ = some (.int .i64 p) ∧ w.cell? ⟨g, 2, none⟩ = some ve ∧ ErK Tc Tp w c S e ve
theorem ErK.ext {Tc Tp : TypeId} {w w' : World} {c c' : Col} {S M : List Nat} (he : Ext M w c w' c') (hS : ∀ k, k ∈ S → k ∉ M) : ∀ {x : Er} {v : Value}, ErK Tc Tp w c S x v → ErK Tc Tp w' c' S x v
  | .nil, _, h => h
  | .code _, _, h => h
  | .fail _ _ _, _, ⟨g, ve, e, hc, h0, h1, h2, h3⟩ =>
    ⟨g, ve, e, by rw [he.col g (World.block_lt_of_cell? w ⟨g, 0, none⟩ h0)]; exact hc, he.cell h0 (hS _ hc), he.cell h1 (hS _ hc), he.cell h2 (hS _ hc), ErK.ext he hS h3⟩
theorem ErK.mono {Tc Tp : TypeId} {w : World} {c : Col} {S S' : List Nat} (hS : ∀ k, k ∈ S → k ∈ S') : ∀ {x : Er} {v : Value}, ErK Tc Tp w c S x v → ErK Tc Tp w c S' x v
  | .nil, _, h => h
  | .code _, _, h => h
  | .fail _ _ _, _, ⟨g, ve, e, hc, h0, h1, h2, h3⟩ => ⟨g, ve, e, hS _ hc, h0, h1, h2, ErK.mono hS h3⟩
/-- None is the nil interface; any other is an interface of some type. -/
theorem ErK.isNil {Tc Tp : TypeId} {w : World} {c : Col} {S : List Nat} {x : Er} {v : Value} (h : ErK Tc Tp w c S x v) : (x = .nil ∧ v = .nilIface) ∨ (x ≠ .nil ∧ ∃ t u, v = .iface t u) := by
  cases x with
  | nil => exact .inl ⟨rfl, h⟩
  | code n => exact .inr ⟨by simp, _, _, h⟩
  | fail s p e => obtain ⟨g, ve, e, _⟩ := h; exact .inr ⟨by simp, _, _, e⟩
/-- What fail.In tells. -/
def Er.inn (s : ByteArray) (p : Int) : Er → Er
  | .nil => .nil
  | e => .fail s p e

/-! ### append -/
/-- The cells of a slice that is read, in one list. -/
theorem Rd.cells {α : Type} {d : Kind α} {w : World} {c : Col} {S : List Nat} {b o : Nat} {cap : Nat} {xs : List α} (h : Rd d w c S (.slice (some ⟨b, o, none⟩) xs.length cap) xs) :
    ∃ cells : List Value, cells.length = xs.length * d.sz ∧ (∀ j u, cells[j]? = some u → w.cell? ⟨b, o + j, none⟩ = some u) ∧ (∀ j x, xs[j]? = some x → d.K w c S x ((cells.drop (j * d.sz)).take d.sz)) ∧ ∀ u, u ∈ cells → u.oneCell' = true := by
  obtain ⟨A, cap', e, h1, h2, h3⟩ := h.form
  injection e with eA _ _
  subst eA
  have key : ∀ n, n ≤ xs.length → ∃ cells : List Value, cells.length = n * d.sz ∧ (∀ j u, cells[j]? = some u → w.cell? ⟨b, o + j, none⟩ = some u) ∧ (∀ j x, j < n → xs[j]? = some x → d.K w c S x ((cells.drop (j * d.sz)).take d.sz)) ∧ ∀ u, u ∈ cells → u.oneCell' = true := by
    intro n
    induction n with
    | zero => intro _; exact ⟨[], by simp, by simp, fun j x h => absurd h (by omega), by simp⟩
    | succ n ih =>
      intro hn
      obtain ⟨cells, hl, hc, hK, h1'⟩ := ih (by omega)
      obtain ⟨b', o', e', _, _, hx⟩ := h3 (by omega)
      injection e' with e'
      injection e' with eb eo _
      subst eb eo
      obtain ⟨cs, hk, hcs⟩ := hx n xs[n] (List.getElem?_eq_getElem (by omega))
      have hcl := d.len hk
      refine ⟨cells ++ cs, by rw [List.length_append, hl, hcl, Nat.succ_mul], fun j u hu => ?_, fun j x hj hjx => ?_, fun u hu => ?_⟩
      · rcases Nat.lt_or_ge j cells.length with hlt | hge
        · rw [List.getElem?_append_left hlt] at hu; exact hc j u hu
        · rw [List.getElem?_append_right hge] at hu
          have := hcs _ u hu
          rw [hl] at this hge
          rw [show o + j = o + n * d.sz + (j - n * d.sz) by omega]; exact this
      · rcases Nat.lt_or_ge j n with hlt | hge
        · have := hK j x hlt hjx
          rw [List.drop_append_of_le_length (by rw [hl]; exact Nat.mul_le_mul_right _ (by omega)), List.take_append_of_le_length]
          · exact this
          · rw [List.length_drop, hl]
            have : (j + 1) * d.sz ≤ n * d.sz := Nat.mul_le_mul_right _ (by omega)
            rw [Nat.succ_mul] at this; omega
        · obtain rfl : j = n := by omega
          rw [List.getElem?_eq_getElem (by omega)] at hjx
          injection hjx with hjx
          subst hjx
          rw [← hl, List.drop_left, List.take_of_length_le (by omega)]
          exact hk
      · rcases List.mem_append.1 hu with hu | hu
        · exact h1' u hu
        · exact d.one hk u hu
  obtain ⟨cells, hl, hc, hK, h1'⟩ := key xs.length (Nat.le_refl _)
  exact ⟨cells, hl, hc, fun j x hj => hK j x (List.getElem?_eq_some_iff.1 hj).1 hj, h1'⟩
theorem Own.push {α : Type} {d : Kind α} {e : TypeId} {w : World} {c : Col} {κ β : Nat} {S : List Nat} {v' : Value} {xs ys : List α} {cells news : List Value} {w' : World}
    (hown : w'.ownsRow β e d.sz v' (xs.length + ys.length) (cells ++ news)) (hcol : ∀ k, v'.ownBlock = some k → (cx c w.heap.size κ) k = κ)
    (hcl : cells.length = xs.length * d.sz) (hx : ∀ j x, xs[j]? = some x → d.K w' (cx c w.heap.size κ) S x ((cells.drop (j * d.sz)).take d.sz))
    (hy : ∀ j x, ys[j]? = some x → d.K w' (cx c w.heap.size κ) S x ((news.drop (j * d.sz)).take d.sz)) : Own d e w' (cx c w.heap.size κ) κ S β v' (xs ++ ys) := by
  refine ⟨cells ++ news, by rw [List.length_append]; exact hown, hcol, fun j x hj => ?_⟩
  rcases Nat.lt_or_ge j xs.length with hlt | hge
  · rw [List.getElem?_append_left hlt] at hj
    rw [List.drop_append_of_le_length (by rw [hcl]; exact Nat.mul_le_mul_right _ (by omega)), List.take_append_of_le_length]
    · exact hx j x hj
    · rw [List.length_drop, hcl]
      have : (j + 1) * d.sz ≤ xs.length * d.sz := Nat.mul_le_mul_right _ (by omega)
      rw [Nat.succ_mul] at this; omega
  · rw [List.getElem?_append_right hge] at hj
    have := hy _ x hj
    have hle : xs.length * d.sz ≤ j * d.sz := Nat.mul_le_mul_right _ hge
    rw [List.drop_append, List.drop_of_length_le (by rw [hcl]; exact hle), List.nil_append, hcl, ← Nat.sub_mul]
    exact this
/-- What an append to it leaves alone. -/
theorem Own.below {α : Type} {d : Kind α} {e : TypeId} {w w' : World} {c : Col} {κ β : Nat} {S : List Nat} {v : Value} {xs : List α} (h : Own d e w c κ S β v xs) (hg : w.grownBy w' v.ownBlock) (hβ : β ≤ w.heap.size) : Below β w w' := by
  obtain ⟨cells, ho, _⟩ := h.form
  exact (Below.refl β w).grown hg hβ (fun k hk => (ho.lt k hk).1)
theorem Own.other {α : Type} {d : Kind α} {e : TypeId} {w w' : World} {c : Col} {κ β : Nat} {S : List Nat} {v : Value} {xs : List α} (h : Own d e w c κ S β v xs) (hg : w.grownBy w' v.ownBlock) {g : Nat} {cs : Array Value} {T : TypeId} {fr : Nat × Nat} (h1 : w.heap[g]? = some (.cells cs T fr)) (hne : T ≠ e) :
    w'.heap[g]? = some (.cells cs T fr) := by
  obtain ⟨cells, ho, _⟩ := h.form
  rw [hg.block g (Array.getElem?_eq_some_iff.1 h1).1 ?_]
  · exact h1
  · intro hk
    rcases ho.2 with ⟨rfl, _⟩ | ⟨g', cap, cur, rfl, hb, hgg, rest⟩
    · simp [Value.ownBlock] at hk
    · simp [Value.ownBlock] at hk
      subst hk
      rw [h1] at hgg
      injection hgg with hgg
      injection hgg with _ hT _
      exact hne hT
/-- append(v, ys...): v one's own, ys read; the elements of ys lead to colours of S. -/
theorem run_own_append {P : Program} {α : Type} (d : Kind α) (hsz : 0 < d.sz) (t ty e : TypeId) (z : Value) (bytes : Nat) (ht : P.underlying t = some (.slice e))
    (hinfo : (P.info? e).map (fun i => (i.zero, i.size, i.bytes)) = some (some z, d.sz, bytes)) (hz : z.cells.size = d.sz) (hb0 : 0 < bytes)
    {w : World} {c : Col} {κ β : Nat} {S S' : List Nat} {v v2 : Value} {xs ys : List α} (hβ : β ≤ w.heap.size) (hown : Own d e w c κ S β v xs) (hS : κ ∉ S) (hy : Rd d w c S' v2 ys) (hK : ∀ x cs, x ∈ ys → d.K w c S' x cs → d.K w c S x cs)
    (hl : (xs.length + ys.length) * bytes ≤ 140737488355328) :
    ∃ v' w', (Builtin.append_ #[t, t] ty #[v, v2]).run P w = .ok v' w' ∧ Own d e w' (cx c w.heap.size κ) κ S β v' (xs ++ ys) ∧ Ext [κ] w c w' (cx c w.heap.size κ) ∧ w.grownBy w' v.ownBlock := by
  obtain ⟨i0, hi, hz0, hz1, hz2⟩ := info_parts hinfo
  obtain ⟨cells, ho, hc, hx⟩ := hown.form
  obtain ⟨A, cap, rfl, hlc, hcm, hA⟩ := hy.form
  have hlen : xs.length + ys.length ≤ 140737488355328 := Nat.le_trans (Nat.le_mul_of_pos_right _ hb0) hl
  have hSM : ∀ k, k ∈ S → k ∉ [κ] := fun k hk he => hS (by simp at he; rw [← he]; exact hk)
  rcases A with _ | ⟨b, o, sp⟩
  · have h0 : ys = [] := by
      rcases Nat.eq_zero_or_pos ys.length with h0 | h0
      · exact List.eq_nil_of_length_eq_zero h0
      · obtain ⟨b, o, h, _⟩ := hA h0; cases h
    subst h0
    have he : Ext [κ] w c w (cx c w.heap.size κ) := ⟨rfl, rfl, rfl, Nat.le_refl _, fun _ hk => cx_old hk, fun _ _ _ => rfl⟩
    refine ⟨v, w, ?_, ?_, he, ⟨rfl, rfl, rfl, Nat.le_refl _, fun _ _ _ => rfl⟩⟩
    · rcases ho.2 with ⟨rfl, _⟩ | ⟨g, cap', cur, rfl, _, _, hnc, _⟩
      · simp [Builtin.append_, run_underlying ht, sizeOf, typeInfo, hi, Builtin.lenOf, Builtin.firstCells]
      · simp [Builtin.append_, run_underlying ht, sizeOf, typeInfo, hi, Builtin.lenOf, Builtin.firstCells, hnc, storeCells]
    · rw [List.append_nil]
      exact ⟨cells, ho, fun k hk => by rw [cx_old (ho.lt k hk).2]; exact hc k hk, fun j x hj => d.ext (hx j x hj) he hSM⟩
  · have hfin : ∃ news : List Value, news.length = ys.length * d.sz ∧ (∀ j u, news[j]? = some u → w.cell? ((⟨b, o, sp⟩ : Addr).add j) = some u) ∧ (∀ j x, ys[j]? = some x → d.K w c S' x ((news.drop (j * d.sz)).take d.sz)) ∧ ∀ u, u ∈ news → u.oneCell' = true := by
      rcases Nat.eq_zero_or_pos ys.length with h0 | h0
      · obtain rfl := List.eq_nil_of_length_eq_zero h0
        exact ⟨[], by simp, by simp, by simp, by simp⟩
      · obtain ⟨b', o', h', _⟩ := hA h0
        injection h' with h'
        injection h' with e1 e2 e3
        subst e1 e2 e3
        obtain ⟨news, h1, h2, h3, h4⟩ := Rd.cells hy
        refine ⟨news, h1, fun j u hu => ?_, h3, h4⟩
        have := h2 j u hu
        have hadd : (⟨b, o, none⟩ : Addr).add j = ⟨b, o + j, none⟩ := by unfold Addr.add; split <;> simp_all
        rw [hadd]; exact this
    obtain ⟨news, hnl, hnc, hnK, hn1⟩ := hfin
    obtain ⟨v', w', hr, ho', hg, _, hat⟩ := run_append_own_at (P := P) w β t ty e i0 z d.sz bytes ht hi hz0 hz1 hz2 hz hsz v xs.length cells ho ⟨b, o, sp⟩ ys.length cap news hnl hnc hn1 (by simp only [maxLen]; omega) hl hβ
    have he : Ext [κ] w c w' (cx c w.heap.size κ) := Ext.of_grown hg (fun k hk => by rw [hc k hk]; simp) κ
    refine ⟨v', w', hr, Own.push ho' (fun k hk => ?_) ho.1 (fun j x hj => d.ext (hx j x hj) he hSM) (fun j x hj => d.ext (hK _ _ (List.mem_of_getElem? hj) (hnK j x hj)) he hSM), he, hg⟩
    rcases hat with hat | hat
    · have hk' : v.ownBlock = some k := by rw [← hat]; exact hk
      rw [cx_old (ho.lt k hk').2]; exact hc k hk'
    · rw [hat] at hk; injection hk with hk; rw [← hk]; exact cx_new (Nat.le_refl _)
theorem own_append {P : Program} {ops : Array Oper} {rest : List Oper} {o : Oper} {a : Act} {Q : Exit → Act → World → Prop} {α : Type} (d : Kind α) (hsz : 0 < d.sz) (hgd : o.guard = none) (s x : Operand) (t e : TypeId) (z : Value) (bytes : Nat)
    (ho : o.op = .call { callee := .builtin .append, args := #[s, x], argTypes := #[t, t] })
    (ht : P.underlying t = some (.slice e)) (hinfo : (P.info? e).map (fun i => (i.zero, i.size, i.bytes)) = some (some z, d.sz, bytes)) (hz : z.cells.size = d.sz) (hb0 : 0 < bytes)
    {w : World} {c : Col} {κ β : Nat} {S S' : List Nat} {v v2 : Value} {xs ys : List α} (hs : a.eval s = v) (hx : a.eval x = v2) (hβ : β ≤ w.heap.size) (hown : Own d e w c κ S β v xs) (hS : κ ∉ S) (hy : Rd d w c S' v2 ys) (hK : ∀ x cs, x ∈ ys → d.K w c S' x cs → d.K w c S x cs)
    (hl : (xs.length + ys.length) * bytes ≤ 140737488355328)
    (h : ∀ v' w', Own d e w' (cx c w.heap.size κ) κ S β v' (xs ++ ys) → Ext [κ] w c w' (cx c w.heap.size κ) → w.grownBy w' v.ownBlock → wpList P ops Q rest (a.put o.dst v') w') : wpList P ops Q (o :: rest) a w := by
  obtain ⟨v', w', hr, h1, h2, h3⟩ := run_own_append (P := P) d hsz t o.type e z bytes ht hinfo hz hb0 hβ hown hS hy hK hl
  refine wpList_plain hgd fun K hK => ?_
  unfold Oper.wp execOp
  simp only [ho, resolve, invoke, builtin, Sem.run_bind, Sem.run_pure, Result.andThen_ok, List.map_toArray, List.map_cons, List.map_nil, hs, hx, hr]
  exact hK _ _ (h v' w' h1 h2 h3)
/-- A literal, or what make lays: a new block. -/
theorem Own.made {α : Type} (d : Kind α) (e : TypeId) (w : World) (c : Col) (κ : Nat) (S : List Nat) (xs : List α) (cells : List Value) (hl : cells.length = xs.length * d.sz) (hm : xs.length ≤ 9223372036854775807)
    (hx : ∀ j x, xs[j]? = some x → d.K (w.alloc (.cells cells.toArray e)) (cx c w.heap.size κ) S x ((cells.drop (j * d.sz)).take d.sz)) :
    Own d e (w.alloc (.cells cells.toArray e)) (cx c w.heap.size κ) κ S w.heap.size (.slice (some ⟨w.heap.size, 0, none⟩) xs.length xs.length) xs :=
  ⟨cells, ⟨hl, .inr ⟨w.heap.size, xs.length, cells.toArray, rfl, Nat.le_refl _, heap_alloc_new w _, Nat.le_refl _, by simpa [maxLen] using hm, by simpa using hl, by rw [← hl]; simp⟩⟩,
    fun k hk => by simp [Value.ownBlock] at hk; subst hk; exact cx_new (Nat.le_refl _), hx⟩
theorem kint_cells (k : IntKind) (w : World) (c : Col) (S : List Nat) (xs : List Int) (hr : ∀ x, x ∈ xs → k.min ≤ x ∧ x ≤ k.max) (j : Nat) (x : Int) (hj : xs[j]? = some x) :
    (kint k).K w c S x (((xs.map (Value.int k)).drop (j * (kint k).sz)).take (kint k).sz) := by
  have hlt := (List.getElem?_eq_some_iff.1 hj).1
  have e : (kint k).sz = 1 := rfl
  refine ⟨?_, hr x (List.mem_of_getElem? hj)⟩
  rw [e, Nat.mul_one, ← List.map_drop, ← List.map_take]
  have : (xs.drop j).take 1 = [x] := by
    rw [List.take_one]
    simp [hj]
  rw [this]; rfl
theorem Own.ints (k : IntKind) (e : TypeId) (w : World) (c : Col) (κ : Nat) (S : List Nat) (xs : List Int) (hr : ∀ x, x ∈ xs → k.min ≤ x ∧ x ≤ k.max) (hm : xs.length ≤ 9223372036854775807) :
    Own (kint k) e (w.alloc (.cells (xs.map (Value.int k)).toArray e)) (cx c w.heap.size κ) κ S w.heap.size (.slice (some ⟨w.heap.size, 0, none⟩) xs.length xs.length) xs :=
  Own.made (kint k) e w c κ S xs (xs.map (Value.int k)) (by simp [kint]) hm (fun j x hj => kint_cells k _ _ S xs hr j x hj)
theorem Rd.length_le {α : Type} {d : Kind α} {w : World} {c : Col} {S : List Nat} {v : Value} {xs : List α} (h : Rd d w c S v xs) : xs.length ≤ 9223372036854775807 := by
  obtain ⟨A, cap, e, h1, h2, h3⟩ := h.form
  omega
theorem Rd.range {k : IntKind} {w : World} {c : Col} {S : List Nat} {v : Value} {xs : List Int} (h : Rd (kint k) w c S v xs) : ∀ x, x ∈ xs → k.min ≤ x ∧ x ≤ k.max := by
  intro x hx
  obtain ⟨A, cap, e, h1, h2, h3⟩ := h.form
  obtain ⟨j, hj⟩ := List.getElem?_of_mem hx
  obtain ⟨b, o, _, _, _, hk⟩ := h3 (by have := (List.getElem?_eq_some_iff.1 hj).1; omega)
  obtain ⟨cs, hK, _⟩ := hk j x hj
  exact hK.2
theorem kint_any {k : IntKind} {w : World} {c : Col} {S S' : List Nat} {x : Int} {cs : List Value} (h : (kint k).K w c S x cs) : (kint k).K w c S' x cs := h
/-- From the function's entry on: only blocks that came later were written. -/
theorem Ext.later {M : List Nat} {w w1 w2 : World} {c c1 c2 : Col} (h : Ext M w c w1 c1) {B : Nat} (hB : w.heap.size ≤ B) (hb : Below B w1 w2) (hc : ∀ k, k < w1.heap.size → c2 k = c1 k) : Ext M w c w2 c2 :=
  ⟨hb.os.trans h.os, hb.tape.trans h.tape, hb.output.trans h.output, Nat.le_trans h.size hb.size, fun k hk => (hc k (Nat.lt_of_lt_of_le hk h.size)).trans (h.col k hk),
   fun k hk hM => (hb.block k (Nat.lt_of_lt_of_le hk hB)).trans (h.keep k hk hM)⟩
theorem Own.slice {α : Type} {d : Kind α} {e : TypeId} {w : World} {c : Col} {κ β : Nat} {S : List Nat} {v : Value} {xs : List α} (h : Own d e w c κ S β v xs) : ∃ A cap, v = .slice A xs.length cap := by
  obtain ⟨cells, ho, _⟩ := h.form
  rcases ho.2 with ⟨rfl, hn⟩ | ⟨g, cap, cur, rfl, _⟩
  · rw [hn]; exact ⟨_, _, rfl⟩
  · exact ⟨_, _, rfl⟩
theorem Rd.slice {α : Type} {d : Kind α} {w : World} {c : Col} {S : List Nat} {v : Value} {xs : List α} (h : Rd d w c S v xs) : ∃ A cap, v = .slice A xs.length cap ∧ xs.length ≤ cap := by
  obtain ⟨A, cap, e, h1, _⟩ := h.form
  exact ⟨A, cap, e, h1⟩
/-- A block's cells and its mark. -/
theorem blkCell {w : World} {g : Nat} {cs : Array Value} {T : TypeId} (h : w.heap[g]? = some (.cells cs T (0, 0))) (i : Nat) : w.cell? ⟨g, i, none⟩ = cs[i]? := cell_of_row w g i cs T (0, 0) h
theorem blkFree {w : World} {g : Nat} {cs : Array Value} {T : TypeId} (h : w.heap[g]? = some (.cells cs T (0, 0))) (i : Nat) : w.frozen? ⟨g, i, none⟩ = false := by simp [World.frozen?, h]
theorem blkLt {w : World} {g : Nat} {o : Obj} (h : w.heap[g]? = some o) : g < w.heap.size := (Array.getElem?_eq_some_iff.1 h).1
theorem blkSet {w : World} {g : Nat} {cs : Array Value} {T : TypeId} (h : w.heap[g]? = some (.cells cs T (0, 0))) (i : Nat) (u : Value) : (w.setCell ⟨g, i, none⟩ u).heap[g]? = some (.cells (cs.setIfInBounds i u) T (0, 0)) := by
  simp [World.setCell, Array.getElem?_modify, h]
theorem blkExt {M : List Nat} {w w' : World} {c c' : Col} {g : Nat} {o : Obj} (h : w.heap[g]? = some o) (he : Ext M w c w' c') (hM : c g ∉ M) : w'.heap[g]? = some o := by rw [he.keep g (blkLt h) hM]; exact h
/-- A cut of a slice that is read. -/
theorem Rd.cut {α : Type} {d : Kind α} {w : World} {c : Col} {S : List Nat} {A : Option Addr} {n cap : Nat} {xs : List α} (h : Rd d w c S (.slice A n cap) xs) (i j : Nat) (hij : i ≤ j) (hj : j ≤ xs.length) :
    Rd d w c S (.slice (if cap = i then A else A.map (·.add (i * d.sz))) (j - i) (cap - i)) ((xs.drop i).take (j - i)) := by
  obtain ⟨A', cap', e, h1, h2, h3⟩ := h.form
  injection e with e1 e2 e3
  subst e1 e2 e3
  have hl : ((xs.drop i).take (j - i)).length = j - i := by rw [List.length_take, List.length_drop]; omega
  refine ⟨_, _, by rw [hl], by omega, by omega, fun hp => ?_⟩
  rw [hl] at hp
  obtain ⟨b, o, rfl, hb, hc, hx⟩ := h3 (by omega)
  refine ⟨b, o + i * d.sz, ?_, hb, hc, fun k x hk => ?_⟩
  · rw [if_neg (by omega)]
    simp only [Option.map_some, Option.some.injEq]
    unfold Addr.add
    split
    · rename_i h0; rw [h0, Nat.add_zero]
    · rfl
  · rw [List.getElem?_take] at hk
    split at hk
    · rw [List.getElem?_drop] at hk
      obtain ⟨cs, hK, hcs⟩ := hx (i + k) x hk
      refine ⟨cs, hK, fun m u hu => ?_⟩
      have := hcs m u hu
      rw [Nat.add_mul] at this
      rw [show o + i * d.sz + k * d.sz + m = o + (i * d.sz + k * d.sz) + m by omega]; exact this
    · cases hk
/-- 'x[l:h]' without a case on the capacity: the new address is a letter. -/
theorem cut_lh {P : Program} {α : Type} (d : Kind α) (t e : TypeId) (z : Option Value) (bytes : Nat) (ht : P.underlying t = some (.slice e)) (hinfo : (P.info? e).map (fun i => (i.zero, i.size, i.bytes)) = some (z, d.sz, bytes))
    (A : Option Addr) (n cap : Nat) (kl kh : IntKind) (l h : Int) (m : Nat) (h0 : 0 ≤ l) (h1 : h - l = m) (h2 : h ≤ n) (h3 : n ≤ cap) :
    ∃ A', (∀ W : World, (Instr.slice t (.slice A n cap) (some (.int kl l)) (some (.int kh h)) none).run P W = .ok (.slice A' m (cap - l.toNat)) W) ∧
      ∀ (w : World) (c : Col) (S : List Nat) (xs : List α), Rd d w c S (.slice A n cap) xs → Rd d w c S (.slice A' m (cap - l.toNat)) ((xs.drop l.toNat).take m) := by
  obtain ⟨i, hi, hz⟩ := Option.map_eq_some_iff.1 hinfo
  simp only [Prod.mk.injEq] at hz
  have hel : P.elem t = e := by simp [Program.elem, ht]
  have hu : P.underlying t = some (.slice (P.elem t)) := by rw [hel]; exact ht
  have hm : h.toNat - l.toNat = m := by omega
  refine ⟨if cap = l.toNat then A else A.map (·.add (l.toNat * d.sz)), fun W => ?_, fun w c S xs hx => ?_⟩
  · rw [run_slice_lh W t A n cap hu kl kh l h h0 (by omega) (by omega), hel]
    simp only [sizeOf, typeInfo, sliced, Result.andThen, hm]
    simp [hi, hz.2.1]
  · have hn : n = xs.length := by
      obtain ⟨_, _, e, _⟩ := hx.form
      injection e
    have := hx.cut l.toNat h.toNat (by omega) (by omega)
    rw [hm] at this
    exact this
theorem cut_l {P : Program} {α : Type} (d : Kind α) (t e : TypeId) (z : Option Value) (bytes : Nat) (ht : P.underlying t = some (.slice e)) (hinfo : (P.info? e).map (fun i => (i.zero, i.size, i.bytes)) = some (z, d.sz, bytes))
    (A : Option Addr) (n cap : Nat) (kl : IntKind) (l : Int) (m : Nat) (h0 : 0 ≤ l) (h1 : n - l = m) :
    ∃ A', (∀ W : World, (Instr.slice t (.slice A n cap) (some (.int kl l)) none none).run P W = .ok (.slice A' m (cap - l.toNat)) W) ∧
      ∀ (w : World) (c : Col) (S : List Nat) (xs : List α), Rd d w c S (.slice A n cap) xs → Rd d w c S (.slice A' m (cap - l.toNat)) (xs.drop l.toNat) := by
  obtain ⟨i, hi, hz⟩ := Option.map_eq_some_iff.1 hinfo
  simp only [Prod.mk.injEq] at hz
  have hel : P.elem t = e := by simp [Program.elem, ht]
  have hu : P.underlying t = some (.slice (P.elem t)) := by rw [hel]; exact ht
  have hm : n - l.toNat = m := by omega
  refine ⟨if cap = l.toNat then A else A.map (·.add (l.toNat * d.sz)), fun W => ?_, fun w c S xs hx => ?_⟩
  · rw [run_slice_l W t A n cap hu kl l h0 (by omega), hel]
    simp only [sizeOf, typeInfo, sliced, Result.andThen, hm]
    simp [hi, hz.2.1]
  · have hn : n = xs.length := by
      obtain ⟨_, _, e, _⟩ := hx.form
      injection e
    have := hx.cut l.toNat n (by omega) (by omega)
    rw [hm, List.take_of_length_le (by rw [List.length_drop]; omega)] at this
    exact this
theorem cut_h {P : Program} {α : Type} (d : Kind α) (t e : TypeId) (z : Option Value) (bytes : Nat) (ht : P.underlying t = some (.slice e)) (hinfo : (P.info? e).map (fun i => (i.zero, i.size, i.bytes)) = some (z, d.sz, bytes))
    (A : Option Addr) (n cap : Nat) (kh : IntKind) (h : Int) (m : Nat) (h1 : h = m) (h2 : h ≤ n) (h3 : n ≤ cap) :
    ∃ A', (∀ W : World, (Instr.slice t (.slice A n cap) none (some (.int kh h)) none).run P W = .ok (.slice A' m cap) W) ∧
      ∀ (w : World) (c : Col) (S : List Nat) (xs : List α), Rd d w c S (.slice A n cap) xs → Rd d w c S (.slice A' m cap) (xs.take m) := by
  obtain ⟨i, hi, hz⟩ := Option.map_eq_some_iff.1 hinfo
  simp only [Prod.mk.injEq] at hz
  have hel : P.elem t = e := by simp [Program.elem, ht]
  have hu : P.underlying t = some (.slice (P.elem t)) := by rw [hel]; exact ht
  have hm : h.toNat = m := by omega
  refine ⟨if cap = 0 then A else A.map (·.add (0 * d.sz)), fun W => ?_, fun w c S xs hx => ?_⟩
  · rw [run_slice_h W t A n cap hu kh h (by omega) (by omega), hel]
    simp only [sizeOf, typeInfo, sliced, Result.andThen, hm]
    simp [hi, hz.2.1]
  · have hn : n = xs.length := by
      obtain ⟨_, _, e, _⟩ := hx.form
      injection e
    have := hx.cut 0 m (by omega) (by omega)
    simpa using this
/-- The same at a step of a region that draws its order. -/
theorem step_own_append {P : Program} {ops : Array Oper} {o : Oper} {a : Act} {K : Act → World → Prop} {Q : Exit → Act → World → Prop} {E : Prop} {α : Type} (d : Kind α) (hsz : 0 < d.sz) (hgd : o.guard = none) (s x : Operand) (t e : TypeId) (z : Value) (bytes : Nat)
    (ho : o.op = .call { callee := .builtin .append, args := #[s, x], argTypes := #[t, t] })
    (ht : P.underlying t = some (.slice e)) (hinfo : (P.info? e).map (fun i => (i.zero, i.size, i.bytes)) = some (some z, d.sz, bytes)) (hz : z.cells.size = d.sz) (hb0 : 0 < bytes)
    {w : World} {c : Col} {κ β : Nat} {S S' : List Nat} {v v2 : Value} {xs ys : List α} (hs : a.eval s = v) (hx : a.eval x = v2) (hβ : β ≤ w.heap.size) (hown : Own d e w c κ S β v xs) (hS : κ ∉ S) (hy : Rd d w c S' v2 ys) (hK : ∀ x cs, x ∈ ys → d.K w c S' x cs → d.K w c S x cs)
    (hl : (xs.length + ys.length) * bytes ≤ 140737488355328)
    (h : ∀ v' w', Own d e w' (cx c w.heap.size κ) κ S β v' (xs ++ ys) → Ext [κ] w c w' (cx c w.heap.size κ) → w.grownBy w' v.ownBlock → K (a.put o.dst v') w') :
    if Region.wanted o (yielded ops a.tmps) = true then Oper.wp P o a w K Q else E := by
  have hw : Region.wanted o (yielded ops a.tmps) = true := by simp [Region.wanted, hgd]
  rw [if_pos hw]
  obtain ⟨v', w', hr, h1, h2, h3⟩ := run_own_append (P := P) d hsz t o.type e z bytes ht hinfo hz hb0 hβ hown hS hy hK hl
  unfold Oper.wp execOp
  simp only [ho, resolve, invoke, builtin, Sem.run_bind, Sem.run_pure, Result.andThen_ok, List.map_toArray, List.map_cons, List.map_nil, hs, hx, hr]
  exact h v' w' h1 h2 h3
/-- Whole numbers of one's own, as a row. -/
theorem Own.row {k : IntKind} {e : TypeId} {w : World} {c : Col} {κ β : Nat} {S : List Nat} {v : Value} {xs : List Int} (h : Own (kint k) e w c κ S β v xs) :
    w.ownsRow β e 1 v xs.length (xs.map (Value.int k)) ∧ (∀ j, v.ownBlock = some j → c j = κ) ∧ ∀ x, x ∈ xs → k.min ≤ x ∧ x ≤ k.max := by
  obtain ⟨cells, ho, hc, hx⟩ := h.form
  have hl : cells.length = xs.length := by have := ho.1; simpa [kint] using this
  have e : cells = xs.map (Value.int k) := by
    apply List.ext_getElem (by simp [hl])
    intro i h1 h2
    have hK := (hx i xs[i] (List.getElem?_eq_getElem (by omega))).1
    have e1 : (kint k).sz = 1 := rfl
    rw [e1, Nat.mul_one] at hK
    have h3 : ((cells.drop i).take 1)[0]? = some (.int k xs[i]) := by rw [hK]; rfl
    rw [List.getElem?_take_of_lt (by omega), List.getElem?_drop, Nat.add_zero, List.getElem?_eq_getElem h1] at h3
    injection h3 with h3
    rw [h3]; simp
  rw [e] at ho
  refine ⟨ho, hc, fun x hx' => ?_⟩
  obtain ⟨j, hj⟩ := List.getElem?_of_mem hx'
  exact (hx j x hj).2
theorem Own.ofRow {k : IntKind} {e : TypeId} {w : World} {c : Col} {κ β : Nat} {S : List Nat} {v : Value} {xs : List Int} (h : w.ownsRow β e 1 v xs.length (xs.map (Value.int k))) (hc : ∀ j, v.ownBlock = some j → c j = κ) (hr : ∀ x, x ∈ xs → k.min ≤ x ∧ x ≤ k.max) :
    Own (kint k) e w c κ S β v xs := ⟨_, h, hc, fun j x hj => kint_cells k w c S xs hr j x hj⟩
/-- A store into one's own numbers. -/
theorem Own.put {k : IntKind} {e : TypeId} {w : World} {c : Col} {κ β : Nat} {S : List Nat} {g n cap : Nat} {xs : List Int} (h : Own (kint k) e w c κ S β (.slice (some ⟨g, 0, none⟩) n cap) xs) (i : Nat) (x : Int) (hr : k.min ≤ x ∧ x ≤ k.max) :
    Own (kint k) e (w.setCell ⟨g, i, none⟩ (.int k x)) c κ S β (.slice (some ⟨g, 0, none⟩) n cap) (xs.set i x) ∧ Ext [κ] w c (w.setCell ⟨g, i, none⟩ (.int k x)) c ∧ Below β w (w.setCell ⟨g, i, none⟩ (.int k x)) := by
  obtain ⟨ho, hc, hx⟩ := h.row
  have hn : n = xs.length := by
    obtain ⟨A, cap', e1⟩ := h.slice
    injection e1
  subst hn
  have hs := (ho.stored i (.int k x)).1
  have e1 : (xs.map (Value.int k)).set i (.int k x) = (xs.set i x).map (Value.int k) := by simp [List.map_set]
  rw [e1] at hs
  refine ⟨Own.ofRow (by rw [List.length_set]; exact hs) hc (fun y hy => ?_), Ext.set (by rw [hc g rfl]; simp) _, (Below.refl β w).setCell (ho.lt g rfl).1 _⟩
  rcases List.mem_or_eq_of_mem_set hy with h1 | h1
  · exact hx y h1
  · rw [h1]; exact hr
theorem Own.block {k : IntKind} {e : TypeId} {w : World} {c : Col} {κ β : Nat} {S : List Nat} {v : Value} {xs : List Int} (h : Own (kint k) e w c κ S β v xs) (hp : 0 < xs.length) :
    ∃ g cap, v = .slice (some ⟨g, 0, none⟩) xs.length cap ∧ β ≤ g ∧ g < w.heap.size ∧ xs.length ≤ cap ∧ c g = κ ∧ (∀ i x, xs[i]? = some x → w.cell? ⟨g, i, none⟩ = some (.int k x)) ∧ ∀ i, w.frozen? ⟨g, i, none⟩ = false := by
  obtain ⟨ho, hc, hx⟩ := h.row
  rcases ho.2 with ⟨rfl, hn⟩ | ⟨g, cap, cur, rfl, hb, hg, hle, _, _, _⟩
  · omega
  · refine ⟨g, cap, rfl, hb, (Array.getElem?_eq_some_iff.1 hg).1, hle, hc g rfl, fun i x hi => ?_, fun i => by simp [World.frozen?, hg]⟩
    rw [ho.cellAt i (by have := (List.getElem?_eq_some_iff.1 hi).1; omega), List.getElem?_map, hi]; rfl
theorem madeCells_int (k : IntKind) (m : Nat) : madeCells #[Value.int k 0] m = ((List.replicate m 0).map (Value.int k)).toArray := by
  apply Array.ext'
  apply List.ext_getElem
  · simp [madeCells]
  · intro i h1 h2
    simp [madeCells, Nat.mod_one]
/-- make([]T, m) of whole numbers. -/
theorem Own.makeInts (k : IntKind) (e : TypeId) (w : World) (c : Col) (κ : Nat) (S : List Nat) (m : Nat) (hm : m ≤ 9223372036854775807) (h0 : k.min ≤ 0 ∧ 0 ≤ k.max) :
    Own (kint k) e (w.alloc (.cells (madeCells #[.int k 0] m) e)) (cx c w.heap.size κ) κ S w.heap.size (.slice (some ⟨w.heap.size, 0, none⟩) m m) (List.replicate m 0) := by
  have := Own.ints k e w c κ S (List.replicate m 0) (fun x hx => by rw [(List.mem_replicate.1 hx).2]; exact h0) (by simpa using hm)
  rw [List.length_replicate] at this
  rw [madeCells_int]; exact this
/-- A store into a block of another type: what is one's own stays. -/
theorem Own.far {α : Type} {d : Kind α} {e : TypeId} {w : World} {c : Col} {κ β : Nat} {v : Value} {xs : List α} (h : Own d e w c κ [] β v xs) {g : Nat} {cs : Array Value} {T : TypeId} {fr : Nat × Nat} (hg : w.heap[g]? = some (.cells cs T fr)) (hne : T ≠ e) (i : Nat) (u : Value) :
    Own d e (w.setCell ⟨g, i, none⟩ u) c κ [] β v xs := by
  obtain ⟨cells, ho, hc, hx⟩ := h.form
  have he : Ext [c g] w c (w.setCell ⟨g, i, none⟩ u) c := Ext.set (by simp) u
  refine ⟨cells, ⟨ho.1, ?_⟩, hc, fun j x hj => d.ext (hx j x hj) he (by simp)⟩
  rcases ho.2 with hn | ⟨g', cap, cur, rfl, hb, hgg, rest⟩
  · exact .inl hn
  · refine .inr ⟨g', cap, cur, rfl, hb, ?_, rest⟩
    have hgn : g' ≠ g := by
      intro e1
      subst e1
      rw [hg] at hgg
      injection hgg with hgg
      injection hgg with _ hT _
      exact hne hT
    rw [Below.heap_setCell w ⟨g, i, none⟩ u g' hgn]; exact hgg
/-! ### min and max: 'attribute [local go_sem] max2i min2i max2v min2v' -/
theorem max2i (k k' : IntKind) (x y : Int) : Builtin.max2 (.int k x) (.int k' y) = pure (.int k (if x < y then y else x)) := by simp only [Builtin.max2, gt_iff_lt]
theorem min2i (k k' : IntKind) (x y : Int) : Builtin.min2 (.int k x) (.int k' y) = pure (.int k (if y < x then y else x)) := by simp only [Builtin.min2]
theorem max2v (ats : Array TypeId) (ty : TypeId) (a b : Value) : Builtin.max_ ats ty #[a, b] = (Builtin.max2 a b >>= fun s => pure s) := by simp only [Builtin.max_, List.foldlM_cons, List.foldlM_nil]
theorem min2v (ats : Array TypeId) (ty : TypeId) (a b : Value) : Builtin.min_ ats ty #[a, b] = (Builtin.min2 a b >>= fun s => pure s) := by simp only [Builtin.min_, List.foldlM_cons, List.foldlM_nil]
theorem u8rng {x : Int} (h0 : 0 ≤ x) (h1 : x ≤ 255) : IntKind.u8.min ≤ x ∧ x ≤ IntKind.u8.max := by
  simp [IntKind.min, IntKind.max, IntKind.bits, IntKind.signed]; omega
theorem rngu8 {x : Int} (h : IntKind.u8.min ≤ x ∧ x ≤ IntKind.u8.max) : 0 ≤ x ∧ x ≤ 255 := by
  simp [IntKind.min, IntKind.max, IntKind.bits, IntKind.signed] at h; omega
/-- A variable in memory. -/
def Bx (w : World) (c : Col) (κ b : Nat) (cs : Array Value) (T : TypeId) : Prop := w.heap[b]? = some (.cells cs T (0, 0)) ∧ c b = κ
theorem Bx.ext {w w' : World} {c c' : Col} {κ b : Nat} {cs : Array Value} {T : TypeId} {M : List Nat} (h : Bx w c κ b cs T) (he : Ext M w c w' c') (hM : κ ∉ M) : Bx w' c' κ b cs T :=
  ⟨blkExt h.1 he (by rw [h.2]; exact hM), by rw [he.col b (blkLt h.1)]; exact h.2⟩
theorem Bx.new (w : World) (c : Col) (κ : Nat) (cs : Array Value) (T : TypeId) : Bx (w.alloc (.cells cs T)) (cx c w.heap.size κ) κ w.heap.size cs T := ⟨heap_alloc_new w _, cx_new (Nat.le_refl _)⟩
theorem Bx.cell {w : World} {c : Col} {κ b : Nat} {cs : Array Value} {T : TypeId} (h : Bx w c κ b cs T) (i : Nat) : w.cell? ⟨b, i, none⟩ = cs[i]? := blkCell h.1 i
theorem Bx.six {w : World} {c : Col} {κ b : Nat} {a0 a1 a2 a3 a4 a5 : Value} {T : TypeId} (h : Bx w c κ b #[a0, a1, a2, a3, a4, a5] T) :
    w.cell? ⟨b, 0, none⟩ = some a0 ∧ w.cell? ⟨b, 1, none⟩ = some a1 ∧ w.cell? ⟨b, 2, none⟩ = some a2 ∧ w.cell? ⟨b, 3, none⟩ = some a3 ∧ w.cell? ⟨b, 4, none⟩ = some a4 ∧ w.cell? ⟨b, 5, none⟩ = some a5 :=
  ⟨h.cell 0, h.cell 1, h.cell 2, h.cell 3, h.cell 4, h.cell 5⟩
theorem Bx.free {w : World} {c : Col} {κ b : Nat} {cs : Array Value} {T : TypeId} (h : Bx w c κ b cs T) (i : Nat) : w.frozen? ⟨b, i, none⟩ = false := blkFree h.1 i
theorem Bx.six' {w : World} {c : Col} {κ b : Nat} {a0 a1 a2 a3 a4 a5 : Value} {T : TypeId} (h : Bx w c κ b #[a0, a1, a2, a3, a4, a5] T) :
    (w.cell? ⟨b, 0, none⟩ = some a0 ∧ w.cell? ⟨b, 1, none⟩ = some a1 ∧ w.cell? ⟨b, 2, none⟩ = some a2 ∧ w.cell? ⟨b, 3, none⟩ = some a3 ∧ w.cell? ⟨b, 4, none⟩ = some a4 ∧ w.cell? ⟨b, 5, none⟩ = some a5) ∧
    w.frozen? ⟨b, 0, none⟩ = false ∧ w.frozen? ⟨b, 1, none⟩ = false ∧ w.frozen? ⟨b, 2, none⟩ = false ∧ w.frozen? ⟨b, 3, none⟩ = false ∧ w.frozen? ⟨b, 4, none⟩ = false ∧ w.frozen? ⟨b, 5, none⟩ = false :=
  ⟨h.six, h.free 0, h.free 1, h.free 2, h.free 3, h.free 4, h.free 5⟩
/-- A struct of six cells is stored. -/
theorem Bx.set6 {w : World} {c : Col} {κ b : Nat} {a0 a1 a2 a3 a4 a5 : Value} {T : TypeId} (h : Bx w c κ b #[a0, a1, a2, a3, a4, a5] T) (v0 v1 v2 v3 v4 v5 : Value) :
    Bx ((((((w.setCell ⟨b, 0, none⟩ v0).setCell ⟨b, 1, none⟩ v1).setCell ⟨b, 2, none⟩ v2).setCell ⟨b, 3, none⟩ v3).setCell ⟨b, 4, none⟩ v4).setCell ⟨b, 5, none⟩ v5) c κ b #[v0, v1, v2, v3, v4, v5] T ∧
    Ext [κ] w c ((((((w.setCell ⟨b, 0, none⟩ v0).setCell ⟨b, 1, none⟩ v1).setCell ⟨b, 2, none⟩ v2).setCell ⟨b, 3, none⟩ v3).setCell ⟨b, 4, none⟩ v4).setCell ⟨b, 5, none⟩ v5) c ∧
    Below b w ((((((w.setCell ⟨b, 0, none⟩ v0).setCell ⟨b, 1, none⟩ v1).setCell ⟨b, 2, none⟩ v2).setCell ⟨b, 3, none⟩ v3).setCell ⟨b, 4, none⟩ v4).setCell ⟨b, 5, none⟩ v5) := by
  obtain ⟨h1, h2⟩ := h
  refine ⟨⟨?_, h2⟩, ?_, ?_⟩
  · have := blkSet (blkSet (blkSet (blkSet (blkSet (blkSet h1 0 v0) 1 v1) 2 v2) 3 v3) 4 v4) 5 v5
    simpa using this
  · have e : ∀ (W : World) (i : Nat) (v : Value), Ext [κ] W c (W.setCell ⟨b, i, none⟩ v) c := fun W i v => Ext.set (by simp [h2]) v
    exact (((((e _ _ _).trans (e _ _ _)).trans (e _ _ _)).trans (e _ _ _)).trans (e _ _ _)).trans (e _ _ _)
  · exact ((((((Below.refl b w).setCell (Nat.le_refl _) _).setCell (Nat.le_refl _) _).setCell (Nat.le_refl _) _).setCell (Nat.le_refl _) _).setCell (Nat.le_refl _) _).setCell (Nat.le_refl _) _
/-- A cell of a variable in memory is stored. -/
theorem Bx.set {w : World} {c : Col} {κ b : Nat} {cs : Array Value} {T : TypeId} (h : Bx w c κ b cs T) (i : Nat) (v : Value) :
    Bx (w.setCell ⟨b, i, none⟩ v) c κ b (cs.setIfInBounds i v) T ∧ Ext [κ] w c (w.setCell ⟨b, i, none⟩ v) c ∧ Below b w (w.setCell ⟨b, i, none⟩ v) :=
  ⟨⟨blkSet h.1 i v, h.2⟩, Ext.set (by simp [h.2]) v, (Below.refl b w).setCell (Nat.le_refl _) _⟩
/-- Two variables in memory, one behind the other; orders drawn. -/
theorem Bx.two (w : World) (c : Col) (κ κ' : Nat) (Z H : Array Value) (T T' : TypeId) : ∃ c2, Bx ((w.alloc (.cells Z T)).alloc (.cells H T')).drew c2 κ w.heap.size Z T ∧ Bx ((w.alloc (.cells Z T)).alloc (.cells H T')).drew c2 κ' (w.heap.size + 1) H T' ∧ Ext [] w c ((w.alloc (.cells Z T)).alloc (.cells H T')).drew c2 := by
  have h1 := Bx.new w c κ Z T
  have e1 := Ext.alloc [] w c (.cells Z T) κ
  have h2 := Bx.new (w.alloc (.cells Z T)) (cx c w.heap.size κ) κ' H T'
  have e2 := Ext.alloc [] (w.alloc (.cells Z T)) (cx c w.heap.size κ) (.cells H T') κ'
  rw [World.size_alloc] at h2
  have e3 := (Ext.refl [] ((w.alloc (.cells Z T)).alloc (.cells H T')) (cx (cx c w.heap.size κ) (w.alloc (.cells Z T)).heap.size κ')).drew
  rw [World.size_alloc] at e2 e3
  exact ⟨_, (h1.ext e2 (by simp)).ext e3 (by simp), h2.ext e3 (by simp), (e1.trans e2).trans e3⟩
end Go.Proofs.Ytkchcihglpcmiaa.Sk
