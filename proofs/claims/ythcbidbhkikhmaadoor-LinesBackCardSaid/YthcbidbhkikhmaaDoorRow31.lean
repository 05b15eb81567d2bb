/- A row of operations among the arguments. -/
import Derived.Test.YthcbidbhkikhmaaDoorOpen31
import Derived.Test.YthcbidbhkikhmaaDoorBack31
namespace Go.Proofs.YthcbidbhkikhmaaDoor
open Go Go.ChangeShapes Go.WideShapes Go.ChangeAt Go.RowKit
structure OpZ where
  w : List UInt8
  id : Int
  n : Int
  b : List UInt8
/-- the row at A holds these operations -/
def RowZ (W : World) (A : Option Addr) (os : List OpZ) : Prop := ∀ (i : Nat) (o : OpZ), os[i]? = some o → ∃ ad B c, A = some ad ∧ ad.block < W.heap.size ∧ W.cell? (ad.add (4 * i)) = some (.string (bs o.w)) ∧
  W.cell? (ad.add (4 * i + 1)) = some (.int .i64 o.id) ∧ W.cell? (ad.add (4 * i + 2)) = some (.int .i64 o.n) ∧ W.cell? (ad.add (4 * i + 3)) = some (.slice B o.b.length c) ∧ Sl W B (o.b.map byteV)
theorem RowZ.below {W W' : World} {A : Option Addr} {os : List OpZ} (h : RowZ W A os) (hb : Below W.heap.size W W') : RowZ W' A os := fun i o ho => by
  obtain ⟨ad, B, c, e, hl, h0, h1, h2, h3, hS⟩ := h i o ho
  have hc : ∀ k, W'.cell? (ad.add k) = W.cell? (ad.add k) := fun k => hb.cell (by rw [addr_add_block]; exact hl)
  exact ⟨ad, B, c, e, Nat.lt_of_lt_of_le hl hb.size, (hc _).trans h0, (hc _).trans h1, (hc _).trans h2, (hc _).trans h3, hS.below hb⟩
theorem list_of {α : Type} (P : Nat → α → Prop) : ∀ n : Nat, (∀ i, i < n → ∃ o, P i o) → ∃ os : List α, os.length = n ∧ ∀ i o, os[i]? = some o → P i o
  | 0, _ => ⟨[], rfl, fun i o h => by simp at h⟩
  | n + 1, h => by
    obtain ⟨os, hl, ho⟩ := list_of P n (fun i hi => h i (by omega))
    obtain ⟨x, hx⟩ := h n (by omega)
    refine ⟨os ++ [x], by simp [hl], fun i o hi => ?_⟩
    by_cases hin : i < os.length
    · rw [List.getElem?_append_left hin] at hi
      exact ho i o hi
    · rw [List.getElem?_append_right (by omega)] at hi
      have hi0 : i - os.length = 0 := by
        have := (List.getElem?_eq_some_iff.1 hi).1
        simp at this; omega
      rw [hi0] at hi
      have hxo : x = o := by simpa using hi
      subst hxo
      have : i = n := by omega
      subst this
      exact hx
section
variable {H : Type} {enc : TypeId × Value → H}
set_option maxRecDepth 100000 in
theorem open_ops {W : World} {r : Reach} {b0 : Nat} {v : Value} {d : DataW H} {ps : List MemPlace} (hval : Value.okWide Tryd.prog W r b0 37 v) (h : DataW.Trod enc Tryd.prog W 0 (fun _ => true) true 37 v d ps) :
    ∃ (A : Option Addr) (n c : Nat) (os : List OpZ), v = .slice A n c ∧ os.length = n ∧ RowZ W A os := by
  obtain ⟨a0, len, cap, rfl⟩ := okWide_slice (P := Tryd.prog) (t := 37) Tryd.underlying37 hval
  obtain ⟨fuel, hf⟩ := h
  rcases DataW.trod_slice (P := Tryd.prog) (t := 37) Tryd.underlying37 hf with ⟨hcs, _⟩ | ⟨a, len', cap', elems, rest, m, _, hcs, _, _, hlc, hcm, hlen, hel, _, _⟩
  · have e : Value.slice a0 len cap = .slice none 0 0 := by simpa [Value.cells] using hcs
    cases e
    exact ⟨none, 0, 0, [], rfl, rfl, fun i o h => by simp at h⟩
  · have e : Value.slice a0 len cap = .slice (some a) len' cap' := by simpa [Value.cells] using hcs
    cases e
    have h4 : (Tryd.prog).cellsOf 24 = 4 := by kernel_rfl
    rw [h4] at hel
    obtain ⟨os, hl, ho⟩ := list_of (fun i (o : OpZ) => ∃ ad B c, some a = some ad ∧ ad.block < W.heap.size ∧ W.cell? (ad.add (4 * i)) = some (.string (bs o.w)) ∧
      W.cell? (ad.add (4 * i + 1)) = some (.int .i64 o.id) ∧ W.cell? (ad.add (4 * i + 2)) = some (.int .i64 o.n) ∧ W.cell? (ad.add (4 * i + 3)) = some (.slice B o.b.length c) ∧ Sl W B (o.b.map byteV)) len (fun i hi => by
        have hi2 := hel i hi
        rw [List.getElem?_eq_getElem (by omega), Option.bind_eq_some_iff] at hi2
        obtain ⟨cs, hcs2, hy⟩ := hi2
        obtain ⟨s, id, n, A, k, c, l, rfl, hS, hlk, _⟩ := op_of_trod hy
        have hc := (World.cells?_some hcs2).2.2
        have q0 := hc 0 (by omega); have q1 := hc 1 (by omega); have q2 := hc 2 (by omega); have q3 := hc 3 (by omega)
        rw [addr_add_add] at q0 q1 q2 q3
        have hlt := World.block_lt_of_cell? W _ q0
        rw [addr_add_block] at hlt
        subst hlk
        refine ⟨⟨s, id, n, l⟩, a, A, c, rfl, hlt, ?_, ?_, ?_, ?_, hS⟩
        · rw [Nat.mul_comm]; exact q0
        · rw [Nat.mul_comm]; exact q1
        · rw [Nat.mul_comm]; exact q2
        · rw [Nat.mul_comm]; exact q3)
    exact ⟨some a, len, cap, os, rfl, hl, ho⟩
end
def OpZ.ok (o : OpZ) : Bool := okP o.w o.id o.n o.b.length
def OpZ.toN (o : OpZ) : OpN := ⟨o.w, o.id.toNat, o.n.toNat, o.b⟩
theorem ok_nonneg {o : OpZ} (h : o.ok = true) : (o.id.toNat : Int) = o.id ∧ (o.n.toNat : Int) = o.n := by
  unfold OpZ.ok at h
  cases hp : partsR o.w with
  | none => rw [okP_none hp] at h; cases h
  | some p =>
    obtain ⟨i, n, b⟩ := p
    have := (okP_some hp).1 h
    omega
theorem Sl.snoc4 {W : World} {A : Option Addr} {xs : List Value} {a b c d : Value} (h : Sl W A xs) (ad : Addr) (hA : A = some ad) (hl : ad.block < W.heap.size) (h0 : W.cell? (ad.add xs.length) = some a) (h1 : W.cell? (ad.add (xs.length + 1)) = some b)
    (h2 : W.cell? (ad.add (xs.length + 2)) = some c) (h3 : W.cell? (ad.add (xs.length + 3)) = some d) : Sl W A (xs ++ [a, b, c, d]) := fun k v hk => by
  by_cases hlt : k < xs.length
  · rw [List.getElem?_append_left hlt] at hk
    exact h k v hk
  · rw [List.getElem?_append_right (by omega)] at hk
    have hk4 := (List.getElem?_eq_some_iff.1 hk).1
    simp at hk4
    refine ⟨ad, hA, hl, ?_⟩
    obtain ⟨j, rfl⟩ : ∃ j, k = xs.length + j := ⟨k - xs.length, by omega⟩
    rw [Nat.add_sub_cancel_left] at hk
    match j, hk with
    | 0, hk => have : a = v := by simpa using hk
               subst this; exact h0
    | 1, hk => have : b = v := by simpa using hk
               subst this; exact h1
    | 2, hk => have : c = v := by simpa using hk
               subst this; exact h2
    | 3, hk => have : d = v := by simpa using hk
               subst this; exact h3
    | j + 4, hk => omega
/-- a row of operations that may be reads as operations -/
theorem RowZ.reads {W : World} {A : Option Addr} {os : List OpZ} (h : RowZ W A os) (hok : ∀ o ∈ os, o.ok = true) (c : Nat) : ReadOps W (.slice A os.length c) (os.map OpZ.toN) := by
  have key : ∀ m, m ≤ os.length → ∃ vs : List Value, vs.length = m ∧ Sl W A (cellsOf ((os.map OpZ.toN).take m) vs) ∧ BsSl W ((os.map OpZ.toN).take m) vs := by
    intro m
    induction m with
    | zero => intro _; exact ⟨[], rfl, by rw [List.take_zero]; exact Sl.nil _ _, by rw [List.take_zero]; trivial⟩
    | succ m ih =>
      intro hm
      obtain ⟨vs, hl, hS, hB⟩ := ih (by omega)
      have ho : os[m]? = some os[m] := List.getElem?_eq_getElem (by omega)
      obtain ⟨ad, B, c, e, hlt, q0, q1, q2, q3, hSB⟩ := h m _ ho
      obtain ⟨n1, n2⟩ := ok_nonneg (hok os[m] (List.getElem_mem _))
      have hml : m < (os.map OpZ.toN).length := by rw [List.length_map]; omega
      have htl : vs.length = ((os.map OpZ.toN).take m).length := by rw [hl, List.length_take]; omega
      have hcl : (cellsOf ((os.map OpZ.toN).take m) vs).length = 4 * m := by
        have : ∀ (os : List OpN) (vs : List Value), vs.length = os.length → (cellsOf os vs).length = 4 * os.length := by
          intro os
          induction os with
          | nil => intro vs h; cases vs with
            | nil => rfl
            | cons _ _ => simp at h
          | cons o os ih => intro vs h; cases vs with
            | nil => simp at h
            | cons v vs => simp [cellsOf, ih vs (by simpa using h)]; omega
        rw [this _ _ htl, List.length_take]; omega
      refine ⟨vs ++ [.slice B os[m].b.length c], by simp [hl], ?_, ?_⟩
      · rw [List.take_succ_eq_append_getElem hml, cellsOf_snoc _ _ _ _ htl]
        refine hS.snoc4 ad e hlt ?_ ?_ ?_ ?_ <;> rw [hcl] <;> try rw [List.getElem_map]
        · exact q0
        · rw [q1]; show _ = some (Value.int .i64 (os[m].id.toNat : Int)); rw [n1]
        · rw [q2]; show _ = some (Value.int .i64 (os[m].n.toNat : Int)); rw [n2]
        · exact q3
      · rw [List.take_succ_eq_append_getElem hml, List.getElem_map]
        have hsn : ∀ (os : List OpN) (vs : List Value) (o : OpN) (v : Value), (∃ A c, v = .slice A o.b.length c ∧ Sl W A (o.b.map byteV)) → BsSl W os vs → BsSl W (os ++ [o]) (vs ++ [v]) := by
          intro os
          induction os with
          | nil => intro vs o v hv hb; cases vs with
            | nil => exact ⟨hv, trivial⟩
            | cons _ _ => exact hb.elim
          | cons o1 os ih => intro vs o v hv hb; cases vs with
            | nil => exact hb.elim
            | cons v1 vs => exact ⟨hb.1, ih vs o v hv hb.2⟩
        exact hsn _ _ _ _ ⟨B, c, rfl, hSB⟩ hB
  obtain ⟨vs, hl, hS, hB⟩ := key os.length (Nat.le_refl _)
  rw [List.take_of_length_le (by simp)] at hS hB
  exact ⟨A, c, vs, by rw [List.length_map], hS, hB⟩
end Go.Proofs.YthcbidbhkikhmaaDoor
