/- Base -/
import Derived.Test.YtcojnigkgbmbmaaGreatDoorChecked
import Derived.WalkKit
import Derived.Lib.Hide
import Derived.Outline
import Derived.BigQuiet
import Derived.Deep.QuietTactic
import Derived.Laws.BitsAllLaws
import Derived.Below
import Derived.Laws.OwnMore
import Derived.OwnWalk
import Derived.Laws.BytesArg
namespace Go.Proofs.YtcojnigkgbmbmaaGreatDoor
open Go Go.RowKit
theorem ofInt64_mod (x : Int) (m : Nat) (hm : m ≤ 64) : (BitVec.ofInt 64 x).toNat % 2 ^ m = (x % (2 ^ m : Nat)).toNat := by
  rw [BitVec.toNat_ofInt]
  have h1 : ((2:Int)^m) ∣ ((2 ^ 64 : Nat) : Int) := by
    have : (2:Nat)^m ∣ 2^64 := Nat.pow_dvd_pow 2 hm
    exact_mod_cast this
  have h2 : (0:Int) ≤ x % ((2 ^ 64 : Nat) : Int) := Int.emod_nonneg _ (by decide)
  have e : (((x % ((2 ^ 64 : Nat) : Int)).toNat % 2 ^ m : Nat) : Int) = x % (2 ^ m : Nat) := by
    rw [Int.natCast_emod, Int.toNat_of_nonneg h2]
    have h1' : (((2 ^ m : Nat)) : Int) ∣ ((2 ^ 64 : Nat) : Int) := by exact_mod_cast h1
    exact Int.emod_emod_of_dvd x h1'
  omega
theorem i64_and_pow (x : Int) (m : Nat) (hm : m ≤ 62) (c : Int) (hc : c = 2 ^ m - 1) : bits .and .i64 x c = x % (2 ^ m : Nat) := by
  have hp : (2:Nat)^m ≤ 2^62 := Nat.pow_le_pow_right (by decide) hm
  have hp1 : 1 ≤ (2:Nat)^m := Nat.one_le_two_pow
  have ht : (BitVec.ofInt 64 c).toNat = 2 ^ m - 1 := by
    have e : c = ((2 ^ m - 1 : Nat) : Int) := by
      rw [hc, Int.ofNat_sub hp1]; push_cast; rfl
    rw [e, BitVec.ofInt_natCast, BitVec.toNat_ofNat]
    exact Nat.mod_eq_of_lt (by omega)
  show IntKind.i64.wrap ((BitVec.ofInt 64 x &&& BitVec.ofInt 64 c).toNat : Int) = _
  rw [BitVec.toNat_and, ht, Nat.and_two_pow_sub_one_eq_mod, ofInt64_mod x m (by omega)]
  have h0 : 0 ≤ x % ((2 ^ m : Nat) : Int) := Int.emod_nonneg _ (by omega)
  have h1 : x % ((2 ^ m : Nat) : Int) < ((2 ^ m : Nat) : Int) := Int.emod_lt_of_pos _ (by omega)
  rw [IntKind.wrap_i64]
  omega
@[go_sem] theorem i64_and_1 (x : Int) : bits .and .i64 x 1 = x % 2 := i64_and_pow x 1 (by decide) 1 rfl
@[go_sem] theorem i64_and_7 (x : Int) : bits .and .i64 x 7 = x % 8 := i64_and_pow x 3 (by decide) 7 rfl
theorem i64_shl_or (x b : Nat) (hx : x < 2 ^ 62) (hb : b < 2) : bits .or .i64 ((x : Int) * 2) b = ((2 * x + b : Nat) : Int) := by
  show IntKind.i64.wrap ((BitVec.ofInt 64 ((x : Int) * 2) ||| BitVec.ofInt 64 (b : Int)).toNat : Int) = _
  have h1 : ((x : Int) * 2) = ((2 * x : Nat) : Int) := by simp; omega
  rw [h1, BitVec.toNat_or, BitVec.ofInt_natCast, BitVec.ofInt_natCast, BitVec.toNat_ofNat, BitVec.toNat_ofNat, Nat.mod_eq_of_lt (by omega), Nat.mod_eq_of_lt (by omega), IntKind.wrap_i64]
  rw [nat_join 1 (2 * x) b (by omega) (by omega)]
  omega
theorem addr_add_block (a : Addr) (n : Nat) : (a.add n).block = a.block := by unfold Addr.add; split <;> rfl
theorem addr_add_add (a : Addr) (i j : Nat) : (a.add i).add j = a.add (i + j) := by
  unfold Addr.add
  by_cases hi : i = 0 <;> by_cases hj : j = 0 <;> simp [hi, hj, Nat.add_assoc]
/-- The cells from the address A on are xs. -/
def Sl (w : World) (A : Option Addr) (xs : List Value) : Prop := ∀ (k : Nat) (v : Value), xs[k]? = some v → ∃ ad, A = some ad ∧ ad.block < w.heap.size ∧ w.cell? (ad.add k) = some v
theorem Sl.nil (w : World) (A : Option Addr) : Sl w A [] := fun k v h => by simp at h
theorem Sl.at_ {w : World} {A : Option Addr} {xs : List Value} (h : Sl w A xs) (k : Nat) (hk : k < xs.length) : ∃ ad, A = some ad ∧ ad.block < w.heap.size ∧ w.cell? (ad.add k) = some xs[k] := h k _ (by simp [hk])
theorem Sl.below {w w' : World} {A : Option Addr} {xs : List Value} (h : Sl w A xs) (hb : Below w.heap.size w w') : Sl w' A xs := fun k v hk => by
  obtain ⟨ad, rfl, hl, hc⟩ := h k v hk
  exact ⟨ad, rfl, Nat.lt_of_lt_of_le hl hb.size, (hb.cell (by rw [addr_add_block]; exact hl)).trans hc⟩
theorem Sl.alloc {w : World} {A : Option Addr} {xs : List Value} (h : Sl w A xs) (o : Obj) : Sl (w.alloc o) A xs := h.below ((Below.refl _ _).alloc (Nat.le_refl _) _)
theorem Sl.drew {w : World} {A : Option Addr} {xs : List Value} (h : Sl w A xs) : Sl w.drew A xs := h.below (Below.refl _ _).drew
theorem Sl.drop {w : World} {A : Option Addr} {xs : List Value} (h : Sl w A xs) (k : Nat) : Sl w (A.map (·.add k)) (xs.drop k) := fun j v hj => by
  rw [List.getElem?_drop] at hj
  obtain ⟨ad, rfl, hl, hc⟩ := h _ _ hj
  exact ⟨ad.add k, rfl, by rw [addr_add_block]; exact hl, by rw [addr_add_add]; exact hc⟩
theorem Sl.take {w : World} {A : Option Addr} {xs : List Value} (h : Sl w A xs) (k : Nat) : Sl w A (xs.take k) := fun j v hj => by
  rw [List.getElem?_take] at hj
  split at hj
  · exact h _ _ hj
  · cases hj
def byteV (b : UInt8) : Value := .int .u8 b.toNat
def intV (n : Int) : Value := .int .i64 n
theorem Sl.byte {w : World} {A : Option Addr} {l : List UInt8} (h : Sl w A (l.map byteV)) (k : Nat) (hk : k < l.length) : ∃ ad, A = some ad ∧ ad.block < w.heap.size ∧ w.cell? (ad.add k) = some (.int .u8 l[k].toNat) :=
  h k _ (by simp [hk, byteV])
theorem Sl.int {w : World} {A : Option Addr} {l : List Int} (h : Sl w A (l.map intV)) (k : Nat) (hk : k < l.length) : ∃ ad, A = some ad ∧ ad.block < w.heap.size ∧ w.cell? (ad.add k) = some (.int .i64 l[k]) :=
  h k _ (by simp [hk, intV])
/-- Block g is just the cells cs of the element type t, none frozen. -/
def Blk (w : World) (g : Nat) (t : TypeId) (cs : Array Value) : Prop := w.heap[g]? = some (.cells cs t (0, 0))
section
variable {w w' : World} {g : Nat} {t : TypeId} {cs : Array Value}
theorem Blk.lt (h : Blk w g t cs) : g < w.heap.size := by
  rcases Nat.lt_or_ge g w.heap.size with hlt | hge
  · exact hlt
  · unfold Blk at h; rw [Array.getElem?_eq_none hge] at h; cases h
theorem Blk.cell (h : Blk w g t cs) (i : Nat) : w.cell? ⟨g, i, none⟩ = cs[i]? := by unfold Blk at h; simp [World.cell?, h]
theorem Blk.frozen (h : Blk w g t cs) (i : Nat) : w.frozen? ⟨g, i, none⟩ = false := by unfold Blk at h; simp [World.frozen?, h]
theorem Blk.new (w : World) (t : TypeId) (cs : Array Value) : Blk (w.alloc (.cells cs t)) w.heap.size t cs := heap_alloc_new w _
theorem Blk.drewN (h : Blk w g t cs) (n : Nat) : Blk (w.drewN n) g t cs := h
theorem Blk.alloc (h : Blk w g t cs) (o : Obj) : Blk (w.alloc o) g t cs := (Below.heap_alloc w o g h.lt).trans h
theorem Blk.set_ (h : Blk w g t cs) (i : Nat) (u : Value) : Blk (w.setCell ⟨g, i, none⟩ u) g t (cs.setIfInBounds i u) := by
  unfold Blk at h ⊢
  simp [World.setCell, Array.getElem?_modify, h]
theorem Blk.far (h : Blk w g t cs) {p : Addr} (hp : g ≠ p.block) (u : Value) : Blk (w.setCell p u) g t cs := (Below.heap_setCell w p u g hp).trans h
theorem Blk.below {B : Nat} (h : Blk w g t cs) (hb : Below B w w') (hg : g < B) : Blk w' g t cs := (hb.block g hg).trans h
theorem Blk.sl (h : Blk w g t cs) (k : Nat) : Sl w (some ⟨g, k, none⟩) (cs.toList.drop k) := fun j v hj => by
  refine ⟨_, rfl, h.lt, ?_⟩
  have e : (⟨g, k, none⟩ : Addr).add j = ⟨g, k + j, none⟩ := by unfold Addr.add; split <;> simp_all
  rw [e, h.cell]
  simpa using hj
end
/-- A string of a list of bytes. -/
def bs (l : List UInt8) : ByteArray := ⟨l.toArray⟩
theorem own_blk_ne {w : World} {g : Nat} {t : TypeId} {cs : Array Value} {base : Nat} {e : TypeId} {size n : Nat} {v : Value} {xs : List Value} (h : w.ownsRow base e size v n xs) (hg : Blk w g t cs) (hne : e ≠ t) : v.ownBlock ≠ some g := by
  rcases h.2 with ⟨rfl, _⟩ | ⟨g', cap, cur, rfl, _, hh, _⟩
  · simp [Value.ownBlock]
  · intro he
    have : g' = g := by simpa [Value.ownBlock] using he
    subst this
    unfold Blk at hg
    rw [hh] at hg
    injection hg with hg
    injection hg with _ ht
    exact hne ht
theorem Blk.grown {w w' : World} {g : Nat} {t : TypeId} {cs : Array Value} {row : Option Nat} (h : Blk w g t cs) (hb : w.grownBy w' row) (hg : row ≠ some g) : Blk w' g t cs := (hb.block g h.lt (fun e => hg e.symm)).trans h
theorem own_sl {w : World} {base : Nat} {e : TypeId} {n : Nat} {v : Value} {xs : List Value} (h : w.ownsRow base e 1 v n xs) : ∃ A c, v = .slice A n c ∧ Sl w A xs := by
  rcases h.2 with ⟨rfl, rfl⟩ | ⟨g, cap, cur, rfl, hbg, hh, h1, h2, h3, h4⟩
  · have : xs = [] := List.eq_nil_of_length_eq_zero (by simpa using h.1)
    subst this
    exact ⟨none, 0, rfl, Sl.nil _ _⟩
  · refine ⟨_, _, rfl, ?_⟩
    have := (Blk.sl (w := w) (g := g) (t := e) (cs := cur) hh 0).take (n * 1)
    rw [List.drop_zero, h4] at this
    exact this
theorem own_below {w w' : World} {base : Nat} {e : TypeId} {size n B : Nat} {v : Value} {xs : List Value} (h : w.ownsRow base e size v n xs) (hb : Below B w w') (hB : w.heap.size ≤ B) : w'.ownsRow base e size v n xs := by
  refine ⟨h.1, ?_⟩
  rcases h.2 with h2 | ⟨g, cap, cur, rfl, hbg, hh, h3⟩
  · exact .inl h2
  · have hl : g < w.heap.size := by
      rcases Nat.lt_or_ge g w.heap.size with hlt | hge
      · exact hlt
      · rw [Array.getElem?_eq_none hge] at hh; cases hh
    exact .inr ⟨g, cap, cur, rfl, hbg, (hb.block g (by omega)).trans hh, h3⟩
theorem below_undrew {B : Nat} {w w' : World} (h : Below B w.drew w') : Below B w w' := ⟨h.os, h.tape, h.output, h.size, h.block⟩
theorem undrew {w w' : World} (h : Below w.drew.heap.size w.drew w') : Below w.heap.size w w' := ⟨h.os, h.tape, h.output, h.size, h.block⟩
theorem undrewN {n : Nat} {w w' : World} (h : Below (w.drewN n).heap.size (w.drewN n) w') : Below w.heap.size w w' := ⟨h.os, h.tape, h.output, h.size, h.block⟩
theorem below_undrewN {B n : Nat} {w w' : World} (h : Below B (w.drewN n) w') : Below B w w' := ⟨h.os, h.tape, h.output, h.size, h.block⟩
theorem own_set {w : World} {base : Nat} {e : TypeId} {size n : Nat} {v : Value} {xs : List Value} (h : w.ownsRow base e size v n xs) (p : Addr) (u : Value) (hne : v.ownBlock ≠ some p.block) : (w.setCell p u).ownsRow base e size v n xs := by
  refine ⟨h.1, ?_⟩
  rcases h.2 with h2 | ⟨g, cap, cur, rfl, hbg, hh, h3⟩
  · exact .inl h2
  · exact .inr ⟨g, cap, cur, rfl, hbg, (Below.heap_setCell w p u g (fun e => hne (by simp [Value.ownBlock, e]))).trans hh, h3⟩
theorem news1 (w : World) (x : Value) (t : TypeId) : ∀ j u, ([x] : List Value)[j]? = some u → (w.alloc (.cells #[x] t)).cell? ((⟨w.heap.size, 0, none⟩ : Addr).add j) = some u := by
  intro j u hj
  have hj0 : j = 0 := by
    rcases j with _ | j
    · rfl
    · simp at hj
  subst hj0
  simp at hj
  subst hj
  rw [show (⟨w.heap.size, 0, none⟩ : Addr).add 0 = ⟨w.heap.size, 0, none⟩ from rfl, (Blk.new w t #[x]).cell]
  rfl
theorem run_bytes_str {P : Program} {w : World} {A : Option Addr} {l : List UInt8} (src dst e : TypeId) (hs : P.underlying src = some (.slice e)) (he : P.underlying e = some (.int .u8)) (hd : P.underlying dst = some .string)
    (h : Sl w A (l.map byteV)) (n c : Nat) (hn : l.length = n) : (convert src dst (.slice A n c)).run P w = .ok (.string (bs l)) w := by
  unfold bs
  subst hn
  cases l with
  | nil =>
    rw [run_convert_bytes_string w src dst e _ _ c hs he hd]
    cases A with
    | none => simp [Conv.bytesToString]; rfl
    | some a =>
      have h0 : (loadCells a 0).run P w = .ok (([] : List Int).map (Value.int .u8)).toArray w := by
        have := run_loadCells_list (P := P) w a [] (fun j v hj => by simp at hj)
        simpa using this
      exact run_bytesToString w a 0 c [] h0
  | cons x l =>
    obtain ⟨ad, rfl, _, _⟩ := h.byte 0 (by simp)
    have hl : (loadCells ad (x :: l).length).run P w = .ok (((x :: l).map fun b => (b.toNat : Int)).map (Value.int .u8)).toArray w := by
      have := run_loadCells_list (P := P) w ad (((x :: l).map fun b => (b.toNat : Int)).map (Value.int .u8)) (fun j v hj => by
        obtain ⟨ad', e1, _, hc⟩ := h j v (by rw [← hj, List.map_map]; rfl)
        cases e1; exact hc)
      simpa using this
    rw [run_convert_bytes_string w src dst e _ _ c hs he hd, run_bytesToString w _ _ c _ hl]
    congr 2
    rw [foldl_push_bytes]
    apply ByteArray.ext
    apply Array.ext'
    simp [ByteArray.empty, ByteArray.emptyWithCapacity, List.map_map, Function.comp_def]
    rfl
theorem run_arr_from {P : Program} (t e n s : Nat) (a : Addr) (ht : P.underlying t = some (.array n e)) (hs : (P.info? e).map (·.size) = some s) (l : Int) (k : Nat) (hl : l = k) (hk : k < n) (W : World) :
    (Instr.sliceAt t (.pointer (some a)) (some (.int .i64 l)) none none).run P W = .ok (.slice (some (a.add (k * s))) (n - k) (n - k)) W := by
  subst hl
  have he : P.elem t = e := by simp [Program.elem, ht]
  have hn : P.arrayLen t = n := by simp [Program.arrayLen, ht]
  obtain ⟨i, hi, hsz⟩ := Option.map_eq_some_iff.1 hs
  rw [run_sliceAt_array_l W t a (by rw [he, hn]; exact ht) .i64 k (by omega) (by rw [hn]; omega), he, hn]
  simp [sizeOf, typeInfo, hi, slicedAt, hsz]
  intro h; omega
theorem wpList_run {P : Program} {ops : Array Oper} {Q : Exit → Act → World → Prop} {rest : List Oper} {o : Oper} {a : Act} {w w' : World} {v : Value} (hgd : o.guard = none)
    (hrun : (execOp a.eval o).run P w = .ok (.value v) w') (h : wpList P ops Q rest (a.put o.dst v) w') : wpList P ops Q (o :: rest) a w :=
  wpList_plain hgd fun _ hK => by unfold Oper.wp; rw [hrun]; exact hK _ _ h
@[go_sem] theorem bs_size (l : List UInt8) : (bs l).size = l.length := by simp [bs, ByteArray.size]
@[go_sem] theorem bs_toL (l : List UInt8) : (bs l).toList = l := by rw [ByteArray.toList_eq]; simp [bs]
@[go_sem] theorem bs_get (l : List UInt8) (j : Nat) (h : j < (bs l).size) : (bs l)[j] = l[j]'(by rwa [bs_size] at h) := by simp [bs, ByteArray.getElem_eq_getElem_data]
@[go_sem] theorem bs_extract (l : List UInt8) (a b : Nat) : (bs l).extract a b = bs ((l.take b).drop a) := by
  apply ByteArray.ext; rw [ByteArray.data_extract]; apply Array.ext'; simp [bs, List.drop_take]
@[go_sem] theorem bs_empty : bs [] = ⟨#[]⟩ := rfl
theorem bs_toList (l : List UInt8) : (bs l).data.toList = l := by simp [bs]
@[go_sem] theorem bs_append (l k : List UInt8) : bs l ++ bs k = bs (l ++ k) := by
  apply ByteArray.ext; simp [bs, ByteArray.data_append]
theorem bs_inj {l k : List UInt8} : bs l = bs k ↔ l = k := ⟨fun h => by have := congrArg (fun s => s.data.toList) h; simpa [bs] using this, fun h => by rw [h]⟩
@[go_sem] theorem encode_48 : Utf8.encode 48 = bs [48] := by decide
@[go_sem] theorem encode_49 : Utf8.encode 49 = bs [49] := by decide
theorem ret_str {l k : List UInt8} (h : l = k) : Ending.returned (.string (bs l)) = .returned (.string (bs k)) := by rw [h]
theorem ret_int {a b : Int} (h : a = b) : Ending.returned (.int .i64 a) = .returned (.int .i64 b) := by rw [h]
theorem ret_bool {a b : Bool} (h : a = b) : Ending.returned (.bool a) = .returned (.bool b) := by rw [h]
theorem ret_tuple {a b : Array Value} (h : a = b) : Ending.returned (.tuple a) = .returned (.tuple b) := by rw [h]
end Go.Proofs.YtcojnigkgbmbmaaGreatDoor
