/- Row -/
import Derived.Test.YtcojnigkgbmbmaaGreatDoorR09
import Derived.Test.YtcojnigkgbmbmaaGreatDoorR05
import Derived.Handy
import Derived.WalkMore
import Derived.Shelf.Abstract
namespace Go.Proofs.YtcojnigkgbmbmaaGreatDoor
open Go Go.RowKit
/-- the cells of elements, one behind the other. -/
def rowC {α : Type} (f : α → List Value) (xs : List α) : List Value := xs.flatMap f
section
variable {α : Type} {f : α → List Value} {s : Nat}
theorem rowC_len (hf : ∀ x, (f x).length = s) (xs : List α) : (rowC f xs).length = xs.length * s := by
  induction xs with
  | nil => simp [rowC]
  | cons x xs ih =>
    have h1 : rowC f (x :: xs) = f x ++ rowC f xs := rfl
    rw [h1, List.length_append, hf, ih, List.length_cons, Nat.add_mul, Nat.one_mul, Nat.add_comm]
theorem rowC_app (xs ys : List α) : rowC f (xs ++ ys) = rowC f xs ++ rowC f ys := List.flatMap_append
theorem rowC_one (x : α) : rowC f [x] = f x := by simp [rowC]
theorem rowC_get (hf : ∀ x, (f x).length = s) (xs : List α) (k : Nat) (hk : k < xs.length) (j : Nat) (hj : j < s) : (rowC f xs)[k * s + j]? = (f xs[k])[j]? := by
  induction xs generalizing k with
  | nil => simp at hk
  | cons x xs ih =>
    have h1 : rowC f (x :: xs) = f x ++ rowC f xs := rfl
    rw [h1]
    cases k with
    | zero => rw [Nat.zero_mul, Nat.zero_add, List.getElem?_append_left (by rw [hf]; exact hj)]; rfl
    | succ k =>
      rw [List.getElem?_append_right (by rw [hf, Nat.add_mul]; omega), hf]
      have e : (k + 1) * s + j - s = k * s + j := by rw [Nat.add_mul]; omega
      rw [e, ih k (by simpa using hk)]
      rfl
theorem rowC_set (hf : ∀ x, (f x).length = s) (xs : List α) (k : Nat) (hk : k < xs.length) (j : Nat) (hj : j < s) (u : Value) (y : α) (hy : f y = (f xs[k]).set j u) : (rowC f xs).set (k * s + j) u = rowC f (xs.set k y) := by
  induction xs generalizing k with
  | nil => simp at hk
  | cons x xs ih =>
    have h1 : rowC f (x :: xs) = f x ++ rowC f xs := rfl
    rw [h1]
    cases k with
    | zero =>
      rw [Nat.zero_mul, Nat.zero_add, List.set_append_left _ _ (by rw [hf]; exact hj)]
      have h2 : f x = f (x :: xs)[0] := rfl
      rw [h2, ← hy]; rfl
    | succ k =>
      rw [List.set_append_right _ _ (by rw [hf, Nat.add_mul]; omega), hf]
      have e : (k + 1) * s + j - s = k * s + j := by rw [Nat.add_mul]; omega
      rw [e, ih k (by simpa using hk) hy]
      rfl
end
theorem row_cell {w : World} {base e g n cap : Nat} {s : Nat} {α : Type} {f : α → List Value} (hf : ∀ x, (f x).length = s) {xs : List α} (h : w.ownsRow base e s (.slice (some ⟨g, 0, none⟩) n cap) n (rowC f xs)) (k : Nat) (hk : k < xs.length) (j : Nat) (hj : j < s) : w.cell? ⟨g, k * s + j, none⟩ = (f xs[k])[j]? := by
  have hl : n * s = xs.length * s := by rw [← h.1, rowC_len hf]
  have hlt : k * s + j < xs.length * s := by
    have h1 : (k + 1) * s ≤ xs.length * s := Nat.mul_le_mul_right s hk
    rw [Nat.add_mul] at h1
    omega
  rw [h.cellAt _ (by rw [hl]; exact hlt), rowC_get hf xs k hk j hj]
theorem row_set {w : World} {base e g n cap : Nat} {s : Nat} {α : Type} {f : α → List Value} (hf : ∀ x, (f x).length = s) {xs : List α} (h : w.ownsRow base e s (.slice (some ⟨g, 0, none⟩) n cap) n (rowC f xs)) (k : Nat) (hk : k < xs.length) (j : Nat) (hj : j < s) (u : Value) (y : α) (hy : f y = (f xs[k]).set j u) :
    (w.setCell ⟨g, k * s + j, none⟩ u).ownsRow base e s (.slice (some ⟨g, 0, none⟩) n cap) n (rowC f (xs.set k y)) := by
  rw [← rowC_set hf xs k hk j hj u y hy]
  exact (h.stored _ u).1
/-- of what lay in A nothing has turned but own. -/
structure Turn (own : Nat → Prop) (A B : World) : Prop where
  os : B.os = A.os
  tape : B.tape = A.tape
  output : B.output = A.output
  size : A.heap.size ≤ B.heap.size
  block : ∀ k, k < A.heap.size → ¬ own k → B.heap[k]? = A.heap[k]?
theorem Turn.of_below {own : Nat → Prop} {w w' : World} (h : Below w.heap.size w w') : Turn own w w' := ⟨h.os, h.tape, h.output, h.size, fun k hk _ => h.block k hk⟩
theorem Turn.refl (own : Nat → Prop) (w : World) : Turn own w w := ⟨rfl, rfl, rfl, Nat.le_refl _, fun _ _ _ => rfl⟩
theorem Turn.trans {own : Nat → Prop} {a b c : World} (h : Turn own a b) (k : Turn own b c) : Turn own a c :=
  ⟨k.os.trans h.os, k.tape.trans h.tape, k.output.trans h.output, Nat.le_trans h.size k.size, fun i hi hn => (k.block i (Nat.lt_of_lt_of_le hi h.size) hn).trans (h.block i hi hn)⟩
theorem Turn.mono {own own' : Nat → Prop} {w w' : World} (h : Turn own w w') (hs : ∀ k, own k → own' k) : Turn own' w w' := ⟨h.os, h.tape, h.output, h.size, fun k hk hn => h.block k hk (fun e => hn (hs k e))⟩
theorem Turn.set {own : Nat → Prop} {w w' : World} (h : Turn own w w') {p : Addr} (hp : own p.block ∨ w.heap.size ≤ p.block) (v : Value) : Turn own w (w'.setCell p v) :=
  ⟨h.os, h.tape, h.output, by simpa using h.size, fun k hk hn => (Below.heap_setCell w' p v k (fun e => by rcases hp with hp | hp; exact hn (e ▸ hp); omega)).trans (h.block k hk hn)⟩
theorem Turn.grown {own : Nat → Prop} {w w' w'' : World} {row : Option Nat} (h : Turn own w w') (g : w'.grownBy w'' row) (hr : ∀ r, row = some r → own r ∨ w.heap.size ≤ r) : Turn own w w'' :=
  ⟨g.os.trans h.os, g.tape.trans h.tape, g.output.trans h.output, Nat.le_trans h.size g.size, fun k hk hn => (g.block k (Nat.lt_of_lt_of_le hk h.size) (fun e => by rcases hr k e.symm with h1 | h1; exact hn h1; omega)).trans (h.block k hk hn)⟩
theorem Turn.blk {own : Nat → Prop} {w w' : World} (h : Turn own w w') {g : Nat} {t : TypeId} {cs : Array Value} (hb : Blk w g t cs) (hg : ¬ own g) : Blk w' g t cs := (h.block g hb.lt hg).trans hb
theorem Turn.sl {own : Nat → Prop} {A B : World} (h : Turn own A B) {a : Option Addr} {xs : List Value} (hs : Sl A a xs) (hn : ∀ ad, a = some ad → ¬ own ad.block) : Sl B a xs := fun k v hk => by
  obtain ⟨ad, rfl, hl, hc⟩ := hs k v hk
  refine ⟨ad, rfl, Nat.lt_of_lt_of_le hl h.size, ?_⟩
  rw [World.cell?_of_block (h.block (ad.add k).block (by rw [addr_add_block]; exact hl) (by rw [addr_add_block]; exact hn ad rfl))]
  exact hc
end Go.Proofs.YtcojnigkgbmbmaaGreatDoor
