/- Base, Bits, Pre03, Trie, Codes, PenP, Fmt2 -/
import Derived.Test.YtcojnigkgbmbmaaGreatDoorChecked
import Derived.WalkKit
import Derived.Lib.Hide
import Derived.Outline
import Derived.BigQuiet
import Derived.Deep.QuietTactic
import Derived.Laws.BitsAllLaws
import Derived.Below
import Derived.Laws.OwnMore
import Derived.OwnWalk
import Derived.Laws.BytesArg
namespace Go.Proofs.YtcojnigkgbmbmaaGreatDoor
open Go Go.RowKit
theorem ofInt64_mod (x : Int) (m : Nat) (hm : m ≤ 64) : (BitVec.ofInt 64 x).toNat % 2 ^ m = (x % (2 ^ m : Nat)).toNat := by
  rw [BitVec.toNat_ofInt]
  have h1 : ((2:Int)^m) ∣ ((2 ^ 64 : Nat) : Int) := by
    have : (2:Nat)^m ∣ 2^64 := Nat.pow_dvd_pow 2 hm
    exact_mod_cast this
  have h2 : (0:Int) ≤ x % ((2 ^ 64 : Nat) : Int) := Int.emod_nonneg _ (by decide)
  have e : (((x % ((2 ^ 64 : Nat) : Int)).toNat % 2 ^ m : Nat) : Int) = x % (2 ^ m : Nat) := by
    rw [Int.natCast_emod, Int.toNat_of_nonneg h2]
    have h1' : (((2 ^ m : Nat)) : Int) ∣ ((2 ^ 64 : Nat) : Int) := by exact_mod_cast h1
    exact Int.emod_emod_of_dvd x h1'
  omega
theorem i64_and_pow (x : Int) (m : Nat) (hm : m ≤ 62) (c : Int) (hc : c = 2 ^ m - 1) : bits .and .i64 x c = x % (2 ^ m : Nat) := by
  have hp : (2:Nat)^m ≤ 2^62 := Nat.pow_le_pow_right (by decide) hm
  have hp1 : 1 ≤ (2:Nat)^m := Nat.one_le_two_pow
  have ht : (BitVec.ofInt 64 c).toNat = 2 ^ m - 1 := by
    have e : c = ((2 ^ m - 1 : Nat) : Int) := by
      rw [hc, Int.ofNat_sub hp1]; push_cast; rfl
    rw [e, BitVec.ofInt_natCast, BitVec.toNat_ofNat]
    exact Nat.mod_eq_of_lt (by omega)
  show IntKind.i64.wrap ((BitVec.ofInt 64 x &&& BitVec.ofInt 64 c).toNat : Int) = _
  rw [BitVec.toNat_and, ht, Nat.and_two_pow_sub_one_eq_mod, ofInt64_mod x m (by omega)]
  have h0 : 0 ≤ x % ((2 ^ m : Nat) : Int) := Int.emod_nonneg _ (by omega)
  have h1 : x % ((2 ^ m : Nat) : Int) < ((2 ^ m : Nat) : Int) := Int.emod_lt_of_pos _ (by omega)
  rw [IntKind.wrap_i64]
  omega
@[go_sem] theorem i64_and_1 (x : Int) : bits .and .i64 x 1 = x % 2 := i64_and_pow x 1 (by decide) 1 rfl
@[go_sem] theorem i64_and_7 (x : Int) : bits .and .i64 x 7 = x % 8 := i64_and_pow x 3 (by decide) 7 rfl
theorem i64_shl_or (x b : Nat) (hx : x < 2 ^ 62) (hb : b < 2) : bits .or .i64 ((x : Int) * 2) b = ((2 * x + b : Nat) : Int) := by
  show IntKind.i64.wrap ((BitVec.ofInt 64 ((x : Int) * 2) ||| BitVec.ofInt 64 (b : Int)).toNat : Int) = _
  have h1 : ((x : Int) * 2) = ((2 * x : Nat) : Int) := by simp; omega
  rw [h1, BitVec.toNat_or, BitVec.ofInt_natCast, BitVec.ofInt_natCast, BitVec.toNat_ofNat, BitVec.toNat_ofNat, Nat.mod_eq_of_lt (by omega), Nat.mod_eq_of_lt (by omega), IntKind.wrap_i64]
  rw [nat_join 1 (2 * x) b (by omega) (by omega)]
  omega
theorem addr_add_block (a : Addr) (n : Nat) : (a.add n).block = a.block := by unfold Addr.add; split <;> rfl
theorem addr_add_add (a : Addr) (i j : Nat) : (a.add i).add j = a.add (i + j) := by
  unfold Addr.add
  by_cases hi : i = 0 <;> by_cases hj : j = 0 <;> simp [hi, hj, Nat.add_assoc]
/-- The cells from the address A on are xs. -/
def Sl (w : World) (A : Option Addr) (xs : List Value) : Prop := ∀ (k : Nat) (v : Value), xs[k]? = some v → ∃ ad, A = some ad ∧ ad.block < w.heap.size ∧ w.cell? (ad.add k) = some v
theorem Sl.nil (w : World) (A : Option Addr) : Sl w A [] := fun k v h => by simp at h
theorem Sl.at_ {w : World} {A : Option Addr} {xs : List Value} (h : Sl w A xs) (k : Nat) (hk : k < xs.length) : ∃ ad, A = some ad ∧ ad.block < w.heap.size ∧ w.cell? (ad.add k) = some xs[k] := h k _ (by simp [hk])
theorem Sl.below {w w' : World} {A : Option Addr} {xs : List Value} (h : Sl w A xs) (hb : Below w.heap.size w w') : Sl w' A xs := fun k v hk => by
  obtain ⟨ad, rfl, hl, hc⟩ := h k v hk
  exact ⟨ad, rfl, Nat.lt_of_lt_of_le hl hb.size, (hb.cell (by rw [addr_add_block]; exact hl)).trans hc⟩
theorem Sl.alloc {w : World} {A : Option Addr} {xs : List Value} (h : Sl w A xs) (o : Obj) : Sl (w.alloc o) A xs := h.below ((Below.refl _ _).alloc (Nat.le_refl _) _)
theorem Sl.drew {w : World} {A : Option Addr} {xs : List Value} (h : Sl w A xs) : Sl w.drew A xs := h.below (Below.refl _ _).drew
theorem Sl.drop {w : World} {A : Option Addr} {xs : List Value} (h : Sl w A xs) (k : Nat) : Sl w (A.map (·.add k)) (xs.drop k) := fun j v hj => by
  rw [List.getElem?_drop] at hj
  obtain ⟨ad, rfl, hl, hc⟩ := h _ _ hj
  exact ⟨ad.add k, rfl, by rw [addr_add_block]; exact hl, by rw [addr_add_add]; exact hc⟩
theorem Sl.take {w : World} {A : Option Addr} {xs : List Value} (h : Sl w A xs) (k : Nat) : Sl w A (xs.take k) := fun j v hj => by
  rw [List.getElem?_take] at hj
  split at hj
  · exact h _ _ hj
  · cases hj
def byteV (b : UInt8) : Value := .int .u8 b.toNat
def intV (n : Int) : Value := .int .i64 n
theorem Sl.byte {w : World} {A : Option Addr} {l : List UInt8} (h : Sl w A (l.map byteV)) (k : Nat) (hk : k < l.length) : ∃ ad, A = some ad ∧ ad.block < w.heap.size ∧ w.cell? (ad.add k) = some (.int .u8 l[k].toNat) :=
  h k _ (by simp [hk, byteV])
theorem Sl.int {w : World} {A : Option Addr} {l : List Int} (h : Sl w A (l.map intV)) (k : Nat) (hk : k < l.length) : ∃ ad, A = some ad ∧ ad.block < w.heap.size ∧ w.cell? (ad.add k) = some (.int .i64 l[k]) :=
  h k _ (by simp [hk, intV])
/-- Block g is just the cells cs of the element type t, none frozen. -/
def Blk (w : World) (g : Nat) (t : TypeId) (cs : Array Value) : Prop := w.heap[g]? = some (.cells cs t (0, 0))
section
variable {w w' : World} {g : Nat} {t : TypeId} {cs : Array Value}
theorem Blk.lt (h : Blk w g t cs) : g < w.heap.size := by
  rcases Nat.lt_or_ge g w.heap.size with hlt | hge
  · exact hlt
  · unfold Blk at h; rw [Array.getElem?_eq_none hge] at h; cases h
theorem Blk.cell (h : Blk w g t cs) (i : Nat) : w.cell? ⟨g, i, none⟩ = cs[i]? := by unfold Blk at h; simp [World.cell?, h]
theorem Blk.frozen (h : Blk w g t cs) (i : Nat) : w.frozen? ⟨g, i, none⟩ = false := by unfold Blk at h; simp [World.frozen?, h]
theorem Blk.new (w : World) (t : TypeId) (cs : Array Value) : Blk (w.alloc (.cells cs t)) w.heap.size t cs := heap_alloc_new w _
theorem Blk.drewN (h : Blk w g t cs) (n : Nat) : Blk (w.drewN n) g t cs := h
theorem Blk.alloc (h : Blk w g t cs) (o : Obj) : Blk (w.alloc o) g t cs := (Below.heap_alloc w o g h.lt).trans h
theorem Blk.set_ (h : Blk w g t cs) (i : Nat) (u : Value) : Blk (w.setCell ⟨g, i, none⟩ u) g t (cs.setIfInBounds i u) := by
  unfold Blk at h ⊢
  simp [World.setCell, Array.getElem?_modify, h]
theorem Blk.far (h : Blk w g t cs) {p : Addr} (hp : g ≠ p.block) (u : Value) : Blk (w.setCell p u) g t cs := (Below.heap_setCell w p u g hp).trans h
theorem Blk.below {B : Nat} (h : Blk w g t cs) (hb : Below B w w') (hg : g < B) : Blk w' g t cs := (hb.block g hg).trans h
theorem Blk.sl (h : Blk w g t cs) (k : Nat) : Sl w (some ⟨g, k, none⟩) (cs.toList.drop k) := fun j v hj => by
  refine ⟨_, rfl, h.lt, ?_⟩
  have e : (⟨g, k, none⟩ : Addr).add j = ⟨g, k + j, none⟩ := by unfold Addr.add; split <;> simp_all
  rw [e, h.cell]
  simpa using hj
end
/-- A string of a list of bytes. -/
def bs (l : List UInt8) : ByteArray := ⟨l.toArray⟩
theorem own_blk_ne {w : World} {g : Nat} {t : TypeId} {cs : Array Value} {base : Nat} {e : TypeId} {size n : Nat} {v : Value} {xs : List Value} (h : w.ownsRow base e size v n xs) (hg : Blk w g t cs) (hne : e ≠ t) : v.ownBlock ≠ some g := by
  rcases h.2 with ⟨rfl, _⟩ | ⟨g', cap, cur, rfl, _, hh, _⟩
  · simp [Value.ownBlock]
  · intro he
    have : g' = g := by simpa [Value.ownBlock] using he
    subst this
    unfold Blk at hg
    rw [hh] at hg
    injection hg with hg
    injection hg with _ ht
    exact hne ht
theorem Blk.grown {w w' : World} {g : Nat} {t : TypeId} {cs : Array Value} {row : Option Nat} (h : Blk w g t cs) (hb : w.grownBy w' row) (hg : row ≠ some g) : Blk w' g t cs := (hb.block g h.lt (fun e => hg e.symm)).trans h
theorem own_sl {w : World} {base : Nat} {e : TypeId} {n : Nat} {v : Value} {xs : List Value} (h : w.ownsRow base e 1 v n xs) : ∃ A c, v = .slice A n c ∧ Sl w A xs := by
  rcases h.2 with ⟨rfl, rfl⟩ | ⟨g, cap, cur, rfl, hbg, hh, h1, h2, h3, h4⟩
  · have : xs = [] := List.eq_nil_of_length_eq_zero (by simpa using h.1)
    subst this
    exact ⟨none, 0, rfl, Sl.nil _ _⟩
  · refine ⟨_, _, rfl, ?_⟩
    have := (Blk.sl (w := w) (g := g) (t := e) (cs := cur) hh 0).take (n * 1)
    rw [List.drop_zero, h4] at this
    exact this
theorem own_below {w w' : World} {base : Nat} {e : TypeId} {size n B : Nat} {v : Value} {xs : List Value} (h : w.ownsRow base e size v n xs) (hb : Below B w w') (hB : w.heap.size ≤ B) : w'.ownsRow base e size v n xs := by
  refine ⟨h.1, ?_⟩
  rcases h.2 with h2 | ⟨g, cap, cur, rfl, hbg, hh, h3⟩
  · exact .inl h2
  · have hl : g < w.heap.size := by
      rcases Nat.lt_or_ge g w.heap.size with hlt | hge
      · exact hlt
      · rw [Array.getElem?_eq_none hge] at hh; cases hh
    exact .inr ⟨g, cap, cur, rfl, hbg, (hb.block g (by omega)).trans hh, h3⟩
theorem own_set {w : World} {base : Nat} {e : TypeId} {size n : Nat} {v : Value} {xs : List Value} (h : w.ownsRow base e size v n xs) (p : Addr) (u : Value) (hne : v.ownBlock ≠ some p.block) : (w.setCell p u).ownsRow base e size v n xs := by
  refine ⟨h.1, ?_⟩
  rcases h.2 with h2 | ⟨g, cap, cur, rfl, hbg, hh, h3⟩
  · exact .inl h2
  · exact .inr ⟨g, cap, cur, rfl, hbg, (Below.heap_setCell w p u g (fun e => hne (by simp [Value.ownBlock, e]))).trans hh, h3⟩
theorem run_bytes_str {P : Program} {w : World} {A : Option Addr} {l : List UInt8} (src dst e : TypeId) (hs : P.underlying src = some (.slice e)) (he : P.underlying e = some (.int .u8)) (hd : P.underlying dst = some .string)
    (h : Sl w A (l.map byteV)) (n c : Nat) (hn : l.length = n) : (convert src dst (.slice A n c)).run P w = .ok (.string (bs l)) w := by
  unfold bs
  subst hn
  cases l with
  | nil =>
    rw [run_convert_bytes_string w src dst e _ _ c hs he hd]
    cases A with
    | none => simp [Conv.bytesToString]; rfl
    | some a =>
      have h0 : (loadCells a 0).run P w = .ok (([] : List Int).map (Value.int .u8)).toArray w := by
        have := run_loadCells_list (P := P) w a [] (fun j v hj => by simp at hj)
        simpa using this
      exact run_bytesToString w a 0 c [] h0
  | cons x l =>
    obtain ⟨ad, rfl, _, _⟩ := h.byte 0 (by simp)
    have hl : (loadCells ad (x :: l).length).run P w = .ok (((x :: l).map fun b => (b.toNat : Int)).map (Value.int .u8)).toArray w := by
      have := run_loadCells_list (P := P) w ad (((x :: l).map fun b => (b.toNat : Int)).map (Value.int .u8)) (fun j v hj => by
        obtain ⟨ad', e1, _, hc⟩ := h j v (by rw [← hj, List.map_map]; rfl)
        cases e1; exact hc)
      simpa using this
    rw [run_convert_bytes_string w src dst e _ _ c hs he hd, run_bytesToString w _ _ c _ hl]
    congr 2
    rw [foldl_push_bytes]
    apply ByteArray.ext
    apply Array.ext'
    simp [ByteArray.empty, ByteArray.emptyWithCapacity, List.map_map, Function.comp_def]
    rfl
theorem run_arr_from {P : Program} (t e n s : Nat) (a : Addr) (ht : P.underlying t = some (.array n e)) (hs : (P.info? e).map (·.size) = some s) (l : Int) (k : Nat) (hl : l = k) (hk : k < n) (W : World) :
    (Instr.sliceAt t (.pointer (some a)) (some (.int .i64 l)) none none).run P W = .ok (.slice (some (a.add (k * s))) (n - k) (n - k)) W := by
  subst hl
  have he : P.elem t = e := by simp [Program.elem, ht]
  have hn : P.arrayLen t = n := by simp [Program.arrayLen, ht]
  obtain ⟨i, hi, hsz⟩ := Option.map_eq_some_iff.1 hs
  rw [run_sliceAt_array_l W t a (by rw [he, hn]; exact ht) .i64 k (by omega) (by rw [hn]; omega), he, hn]
  simp [sizeOf, typeInfo, hi, slicedAt, hsz]
  intro h; omega
theorem wpList_run {P : Program} {ops : Array Oper} {Q : Exit → Act → World → Prop} {rest : List Oper} {o : Oper} {a : Act} {w w' : World} {v : Value} (hgd : o.guard = none)
    (hrun : (execOp a.eval o).run P w = .ok (.value v) w') (h : wpList P ops Q rest (a.put o.dst v) w') : wpList P ops Q (o :: rest) a w :=
  wpList_plain hgd fun _ hK => by unfold Oper.wp; rw [hrun]; exact hK _ _ h
@[go_sem] theorem bs_size (l : List UInt8) : (bs l).size = l.length := by simp [bs, ByteArray.size]
@[go_sem] theorem bs_toL (l : List UInt8) : (bs l).toList = l := by rw [ByteArray.toList_eq]; simp [bs]
@[go_sem] theorem bs_get (l : List UInt8) (j : Nat) (h : j < (bs l).size) : (bs l)[j] = l[j]'(by rwa [bs_size] at h) := by simp [bs, ByteArray.getElem_eq_getElem_data]
@[go_sem] theorem bs_extract (l : List UInt8) (a b : Nat) : (bs l).extract a b = bs ((l.take b).drop a) := by
  apply ByteArray.ext; rw [ByteArray.data_extract]; apply Array.ext'; simp [bs, List.drop_take]
@[go_sem] theorem bs_empty : bs [] = ⟨#[]⟩ := rfl
theorem bs_toList (l : List UInt8) : (bs l).data.toList = l := by simp [bs]
@[go_sem] theorem bs_append (l k : List UInt8) : bs l ++ bs k = bs (l ++ k) := by
  apply ByteArray.ext; simp [bs, ByteArray.data_append]
@[go_sem] theorem encode_48 : Utf8.encode 48 = bs [48] := by decide
@[go_sem] theorem encode_49 : Utf8.encode 49 = bs [49] := by decide
theorem ret_int {a b : Int} (h : a = b) : Ending.returned (.int .i64 a) = .returned (.int .i64 b) := by rw [h]
end Go.Proofs.YtcojnigkgbmbmaaGreatDoor
namespace Go.Proofs.YtcojnigkgbmbmaaGreatDoor
open Go Go.RowKit
def bitN (l : List UInt8) (k : Nat) : Nat := (l.getD (k / 8) 0).toNat / 2 ^ (7 - k % 8) % 2
theorem bitN_lt (l : List UInt8) (k : Nat) : bitN l k < 2 := Nat.mod_lt _ (by decide)
def numN (l : List UInt8) (k : Nat) : Nat → Nat
  | 0 => 0
  | n + 1 => 2 * numN l k n + bitN l (k + n)
theorem numN_lt (l : List UInt8) (k n : Nat) : numN l k n < 2 ^ n := by
  induction n with
  | zero => simp [numN]
  | succ n ih => have := bitN_lt l (k + n); simp only [numN, Nat.pow_succ]; omega
theorem bits_bit (A : Option Addr) (n c : Nat) (l : List UInt8) (i : Int) (w : World) (hr : Sl w A (l.map byteV)) (hn : l.length = n) (h0 : 0 ≤ i) (h1 : i < 8 * n) :
   Calls Tryz.prog 143 #[.slice A n c, .int .i64 i] w fun e w' => e = .returned (.int .i64 (bitN l i.toNat)) ∧ w = w' := by
  obtain ⟨k, rfl⟩ := Int.eq_ofNat_of_zero_le h0
  subst hn
  obtain ⟨ad, rfl, _, hc⟩ := hr.byte (k / 8) (by omega)
  have hk : (0:Int) ≤ 7 - ↑k % 8 := by omega
  have hb : l[k / 8].toNat < 256 := UInt8.toNat_lt _
  have hb2 : l[k / 8].toNat / 2 ^ (7 - k % 8) < 256 := Nat.lt_of_le_of_lt (Nat.div_le_self _ _) hb
  have hlt : k / 8 < l.length := by omega
  have hfin : wrap64 (↑l[k / 8].toNat / 2 ^ (7 - k % 8)) % 2 = ((bitN l k : Nat) : Int) := by
    generalize hq : l[k / 8].toNat / 2 ^ (7 - k % 8) = q at hb2
    rw [show ((l[k / 8].toNat : Int) / 2 ^ (7 - k % 8)) = (q : Int) by rw [← hq]; simp, IntWalk.wrap64_in _ (by omega), ← hq]
    simp [bitN, List.getD, hlt]
  have Hf := Lib.hid hfin
  clear hfin hb hb2
  go_enter Tryz.func143, Tryz.ntmps143
  go_wp2
  go_ret
  rw [Hf.out, Int.toNat_natCast]
  exact ⟨rfl, rfl⟩
set_option maxHeartbeats 400000 in
theorem bits_Read (A : Option Addr) (n c : Nat) (l : List UInt8) (i m : Int) (w : World) (hr : Sl w A (l.map byteV)) (hn : l.length = n) (h0 : 0 ≤ i) (hm : 0 ≤ m) (hm2 : m ≤ 32) (h1 : i + m ≤ 8 * n) (hsz : n ≤ 2 ^ 47) :
   Calls Tryz.prog 110 #[.slice A n c, .int .i64 i, .int .i64 m] w fun e w' => e = .returned (.tuple #[.int .i64 (numN l i.toNat m.toNat), .int .i64 0]) ∧ w = w' := by
  obtain ⟨k, rfl⟩ := Int.eq_ofNat_of_zero_le h0
  obtain ⟨m, rfl⟩ := Int.eq_ofNat_of_zero_le hm
  have e1 : decide ((k:Int) < 0) = false := by simp
  have e2 : decide ((m:Int) < 0) = false := by simp
  have e3 : ¬ (32 : Int) < m := by omega
  have e4 : ¬ (8 * (n : Int)) < k := by omega
  have e5 : ¬ (8 * (n : Int)) - k < m := by omega
  go_enter Tryz.func110, Tryz.ntmps110
  go_wp2
  go_loop [1, 2, 8] (fun i n x => ∃ j : Nat, j ≤ m ∧ i = .int .i64 ((k + j : Nat) : Int) ∧ n = .int .i64 ((m - j : Nat) : Int) ∧ x = .int .i64 (numN l k j)) (fun _ n _ => (intOf n).toNat)
  case atStart => exact ⟨0, by omega, rfl, rfl, rfl⟩
  case round =>
    obtain ⟨j, hj, rfl, rfl, rfl⟩ := hrel
    by_cases hlt : j < m
    · have hb := bitN_lt l (k + j)
      have hx := numN_lt l k j
      have hx2 : numN l k j < 2 ^ 32 := Nat.lt_of_lt_of_le hx (Nat.pow_le_pow_right (by decide) (by omega))
      have hp : (0 : Int) < ((m - j : Nat) : Int) := by omega
      have Ho := Lib.hid (i64_shl_or (numN l k j) (bitN l (k + j)) (by omega) hb)
      clear hx
      have hz : (0:Int) ≤ ((k+j : Nat) : Int) := by omega
      go_wp2_with (go_at_call 143; refine (bits_bit _ _ _ l _ _ hr hn (by omega) (by omega)).mono ?_; rintro e w' ⟨rfl, rfl⟩)
      refine ⟨⟨j + 1, by omega, by congr 1, by congr 1; omega, ?_⟩, ?_⟩
      · have h2 := Ho.out; exact congrArg (Value.int .i64) h2
      · simp [intOf]; omega
    · have hp : ¬ (0 : Int) < ((m - j : Nat) : Int) := by omega
      obtain rfl : j = m := by omega
      go_wp2
      go_ret2
      exact ⟨by simp, rfl⟩
theorem bits_Read_v (v : Int) (A : Option Addr) (n c : Nat) (l : List UInt8) (i m : Int) (w : World) (hv : (numN l i.toNat m.toNat : Int) = v) (hr : Sl w A (l.map byteV)) (hn : l.length = n) (h0 : 0 ≤ i) (hm : 0 ≤ m) (hm2 : m ≤ 32) (h1 : i + m ≤ 8 * n) (hsz : n ≤ 2 ^ 47) :
   Calls Tryz.prog 110 #[.slice A n c, .int .i64 i, .int .i64 m] w fun e w' => e = .returned (.tuple #[.int .i64 v, .int .i64 0]) ∧ w = w' := by
  rw [← hv]; exact bits_Read A n c l i m w hr hn h0 hm hm2 h1 hsz
theorem bits_Read_more (A : Option Addr) (n c : Nat) (i m : Int) (w : World) (h0 : 0 ≤ i) (hm : 0 ≤ m) (hm2 : m ≤ 32) (h1 : 8 * n < i + m) (hsz : n ≤ 2 ^ 47) :
   Calls Tryz.prog 110 #[.slice A n c, .int .i64 i, .int .i64 m] w fun e w' => e = .returned (.tuple #[.int .i64 0, .int .i64 5]) ∧ w = w' := by
  have e1 : decide (i < 0) = false := by simpa using h0
  have e2 : decide (m < 0) = false := by simpa using hm
  have e3 : ¬ (32 : Int) < m := by omega
  by_cases e4 : (8 * (n : Int)) < i
  · go_enter Tryz.func110, Tryz.ntmps110
    go_wp2
    go_ret2
    exact ⟨rfl, rfl⟩
  · have e5 : (8 * (n : Int)) - i < m := by omega
    go_enter Tryz.func110, Tryz.ntmps110
    go_wp2
    go_ret2
    exact ⟨rfl, rfl⟩
theorem bits_Count (A : Option Addr) (n c : Nat) (w : World) (hsz : n ≤ 2 ^ 47) :
   Calls Tryz.prog 142 #[.slice A n c] w fun e w' => e = .returned (.int .i64 (8 * n)) ∧ w = w' := by
  go_enter Tryz.func142, Tryz.ntmps142
  go_wp2
  go_ret
  exact ⟨rfl, rfl⟩
end Go.Proofs.YtcojnigkgbmbmaaGreatDoor
namespace Go.Proofs.YtcojnigkgbmbmaaGreatDoor
open Go Go.RowKit
def strV (c : List UInt8) : Value := .string (bs c)
def bitC (l : List UInt8) (k : Nat) : UInt8 := if bitN l k = 0 then 48 else 49
def bitsL (l : List UInt8) (i n : Nat) : List UInt8 := (List.range n).map fun j => bitC l (i + j)
theorem bitsL_succ (l : List UInt8) (i n : Nat) : bitsL l i (n + 1) = bitsL l i n ++ [bitC l (i + n)] := by simp [bitsL, List.range_succ]
theorem bitsL_length (l : List UInt8) (i n : Nat) : (bitsL l i n).length = n := by simp [bitsL]
theorem numN_one (l : List UInt8) (k : Nat) : numN l k 1 = bitN l k := by simp [numN]
def isCode (c : List UInt8) : Bool := c.all (fun b => b == 48 || b == 49) && decide (1 ≤ c.length) && decide (c.length ≤ 24)
def codesFree (cs : List (List UInt8)) : Bool := (List.range cs.length).all fun i => (List.range cs.length).all fun k => i == k || !(cs.getD k []).isPrefixOf (cs.getD i [])
def findR (s : List UInt8) : List (List UInt8) → List Int → Option (Int × Int)
  | c :: cs, n :: ns => if c.isPrefixOf s then some (n, (c.length : Int)) else findR s cs ns
  | _, _ => none
def getT (cs : List (List UInt8)) (ns : List Int) (s : List UInt8) : Int × Int × Int :=
  match findR s cs ns with
  | some (n, k) => (n, k, 0)
  | none => if cs.any (fun c => s.isPrefixOf c) then (0, 0, 5) else (0, 0, 7)
def treeR (cs : List (List UInt8)) (ns : List Int) (l : List UInt8) (i : Int) : Int × Int × Int :=
  if i < 0 then (0, 0, 3) else getT cs ns (bitsL l i.toNat (min 24 (8 * l.length - i.toNat)))
theorem prefix_take (p s : List UInt8) (_h : p.length ≤ s.length) : (s.take p.length == p) = p.isPrefixOf s := by
  rw [Bool.eq_iff_iff, beq_iff_eq, List.isPrefixOf_iff_prefix, List.prefix_iff_eq_take]
  exact eq_comm
theorem prefix_long (p s : List UInt8) (h : ¬ p.length ≤ s.length) : p.isPrefixOf s = false := by
  rw [Bool.eq_false_iff]
  intro hp
  exact h (List.isPrefixOf_iff_prefix.1 hp).length_le
end Go.Proofs.YtcojnigkgbmbmaaGreatDoor
namespace Go.Proofs.YtcojnigkgbmbmaaGreatDoor
open Go Go.RowKit
structure Nd where
  a : Nat
  b : Nat
  leaf : Bool
  num : Int
def ndC (x : Nd) : List Value := [.int .i64 x.a, .int .i64 x.b, .bool x.leaf, .int .i64 x.num]
theorem ndC_len (x : Nd) : (ndC x).length = 4 := rfl
def Nd.to (x : Nd) (c : UInt8) : Nat := if c = 48 then x.a else x.b
def Nd.link (x : Nd) (c : UInt8) (k : Nat) : Nd := if c = 48 then ⟨k, x.b, x.leaf, x.num⟩ else ⟨x.a, k, x.leaf, x.num⟩
def nd0 : Nd := ⟨0, 0, false, 0⟩
/-- a step of put: from node k by the bit c. -/
def goN (N : List Nd) (k : Nat) (c : UInt8) : List Nd × Nat :=
  if (N.getD k nd0).to c = 0 then ((N ++ [nd0]).set k ((N.getD k nd0).link c N.length), N.length) else (N, (N.getD k nd0).to c)
def walkP : List Nd → Nat → List UInt8 → Option (List Nd × Nat)
  | N, k, [] => if decide (N.length ≤ k) || decide (10000 ≤ N.length) then none else some (N, k)
  | N, k, c :: s => if (N.getD k nd0).leaf || decide (N.length ≤ k) || decide (10000 ≤ N.length) then none else walkP (goN N k c).1 (goN N k c).2 s
def putN (N : List Nd) (s : List UInt8) (num : Int) : Option (List Nd) :=
  match walkP N 0 s with
  | none => none
  | some (M, k) => if (M.getD k nd0).leaf || (M.getD k nd0).a != 0 || (M.getD k nd0).b != 0 then none else some (M.set k ⟨0, 0, true, num⟩)
def putAll : List Nd → List (List UInt8) → List Int → Option (List Nd)
  | N, c :: cs, n :: ns => match putN N c n with
    | none => none
    | some M => putAll M cs ns
  | N, _, _ => some N
/-- the tree of codes. -/
def treeN (cs : List (List UInt8)) (ns : List Int) : List Nd := (putAll [nd0] cs ns).getD []
def walkT (N : List Nd) : Nat → List UInt8 → Int → Int × Int × Int
  | _, [], _ => (0, 0, 5)
  | k, c :: s, many => if (N.getD k nd0).to c = 0 then (0, 0, 7) else if (N.getD ((N.getD k nd0).to c) nd0).leaf then ((N.getD ((N.getD k nd0).to c) nd0).num, many + 1, 0) else walkT N ((N.getD k nd0).to c) s (many + 1)
def wfN (N : List Nd) : Bool := N.all fun x => decide (x.a < N.length) && decide (x.b < N.length)
theorem wfN_to {N : List Nd} (h : wfN N = true) (k : Nat) (hk : 0 < N.length) (c : UInt8) : (N.getD k nd0).to c < N.length := by
  rw [List.getD]
  cases he : N[k]? with
  | none => simpa [Nd.to, nd0] using hk
  | some x =>
    have := List.all_eq_true.1 h x (List.mem_of_getElem? he)
    simp only [Bool.and_eq_true, decide_eq_true_eq] at this
    simp only [Option.getD_some, Nd.to]
    split
    · exact this.1
    · exact this.2
def strip (c : UInt8) : List (List UInt8 × Int) → List (List UInt8 × Int)
  | [] => []
  | ([], _) :: D => strip c D
  | (d :: s, n) :: D => if d == c then (s, n) :: strip c D else strip c D
def okT : Nat → List Nd → Nat → List (List UInt8 × Int) → Bool
  | 0, _, _, _ => false
  | f + 1, N, k, D => D.all (fun p => p.1 != []) && D != [] && [(48 : UInt8), 49].all fun c =>
      if (N.getD k nd0).to c == 0 then strip c D == [] else
        if (N.getD ((N.getD k nd0).to c) nd0).leaf then strip c D == [([], (N.getD ((N.getD k nd0).to c) nd0).num)] else okT f N ((N.getD k nd0).to c) (strip c D)
def lookD (D : List (List UInt8 × Int)) (s : List UInt8) (many : Int) : Int × Int × Int :=
  match D.find? (fun p => p.1.isPrefixOf s) with
  | some p => (p.2, many + p.1.length, 0)
  | none => if D.any (fun p => s.isPrefixOf p.1) then (0, 0, 5) else (0, 0, 7)
theorem lookD_nil (D : List (List UInt8 × Int)) (h : D.all (fun p => p.1 != []) = true) (h1 : D ≠ []) (many : Int) : lookD D [] many = (0, 0, 5) := by
  have hf : D.find? (fun p => p.1.isPrefixOf ([] : List UInt8)) = none := by
    rw [List.find?_eq_none]
    intro p hp
    have := List.all_eq_true.1 h p hp
    obtain ⟨s, n⟩ := p
    cases s with
    | nil => simp at this
    | cons x s => simp
  unfold lookD
  rw [hf]
  cases D with
  | nil => exact absurd rfl h1
  | cons p D => simp
theorem lookD_cons : ∀ (D : List (List UInt8 × Int)) (h : D.all (fun p => p.1 != []) = true) (c : UInt8) (s : List UInt8) (many : Int), lookD D (c :: s) many = lookD (strip c D) s (many + 1)
  | [], _, c, s, many => rfl
  | ([], n) :: D, h, c, s, many => by simp at h
  | (d :: t, n) :: D, h, c, s, many => by
    have ih := lookD_cons D (by simpa using h) c s many
    unfold lookD at ih ⊢
    by_cases hd : d = c
    · subst hd
      simp only [strip, beq_self_eq_true, if_true, List.find?_cons, List.isPrefixOf_cons_cons, Bool.true_and, List.any_cons]
      cases hp : t.isPrefixOf s with
      | true => simp; omega
      | false =>
        simp only []
        cases hs : s.isPrefixOf t with
        | false => simp only [Bool.false_or]; exact ih
        | true =>
          simp only [Bool.true_or, if_true]
          cases h1 : D.find? (fun p => p.1.isPrefixOf (d :: s)) with
          | none =>
            rw [h1] at ih
            cases h2 : (strip d D).find? (fun p => p.1.isPrefixOf s) with
            | none => rfl
            | some p => rw [h2] at ih; simp only at ih; split at ih <;> simp at ih
          | some p =>
            rw [h1] at ih
            cases h2 : (strip d D).find? (fun p => p.1.isPrefixOf s) with
            | none => rw [h2] at ih; simp only at ih; split at ih <;> simp at ih
            | some q => rw [h2] at ih; exact ih
    · have h1 : (d == c) = false := beq_eq_false_iff_ne.2 hd
      have h2 : (c == d) = false := beq_eq_false_iff_ne.2 (Ne.symm hd)
      simp only [strip, h1, if_false, List.find?_cons, List.isPrefixOf_cons_cons, Bool.false_and, List.any_cons, h2, Bool.false_or, Bool.false_eq_true]
      exact ih
theorem walk_look : ∀ (f : Nat) (N : List Nd) (k : Nat) (D : List (List UInt8 × Int)) (s : List UInt8) (many : Int), okT f N k D = true → (∀ c ∈ s, c = 48 ∨ c = 49) → walkT N k s many = lookD D s many
  | 0, N, k, D, s, many, h, _ => by simp [okT] at h
  | f + 1, N, k, D, s, many, h, hs => by
    rw [okT, Bool.and_eq_true, Bool.and_eq_true] at h
    obtain ⟨⟨h1, h2⟩, h3⟩ := h
    have h2' : D ≠ [] := by simpa using h2
    cases s with
    | nil => rw [lookD_nil D h1 h2']; rfl
    | cons c s =>
      rw [lookD_cons D h1 c s many, walkT]
      have hc : c ∈ [(48 : UInt8), 49] := by have := hs c (by simp); simpa using this
      have h4 := List.all_eq_true.1 h3 c hc
      by_cases ht : (N.getD k nd0).to c = 0
      · rw [if_pos ht]
        rw [if_pos (beq_iff_eq.2 ht)] at h4
        rw [beq_iff_eq.1 h4]
        rfl
      · rw [if_neg ht]
        rw [if_neg (by simpa using ht)] at h4
        by_cases hl : (N.getD ((N.getD k nd0).to c) nd0).leaf = true
        · rw [if_pos hl]
          rw [if_pos hl] at h4
          rw [beq_iff_eq.1 h4]
          simp [lookD]
        · rw [if_neg hl]
          rw [if_neg hl] at h4
          exact walk_look f N _ _ s (many + 1) h4 (fun x hx => hs x (by simp [hx]))
theorem walk_take : ∀ (f : Nat) (N : List Nd) (k : Nat) (D : List (List UInt8 × Int)) (s : List UInt8) (many : Int), okT f N k D = true → (∀ c ∈ s, c = 48 ∨ c = 49) → walkT N k s many = walkT N k (s.take f) many
  | 0, N, k, D, s, many, h, _ => by simp [okT] at h
  | f + 1, N, k, D, s, many, h, hs => by
    rw [okT, Bool.and_eq_true, Bool.and_eq_true] at h
    obtain ⟨⟨h1, h2⟩, h3⟩ := h
    cases s with
    | nil => rfl
    | cons c s =>
      rw [List.take_succ_cons, walkT, walkT]
      have hc : c ∈ [(48 : UInt8), 49] := by have := hs c (by simp); simpa using this
      have h4 := List.all_eq_true.1 h3 c hc
      by_cases ht : (N.getD k nd0).to c = 0
      · rw [if_pos ht, if_pos ht]
      · rw [if_neg ht, if_neg ht]
        rw [if_neg (by simpa using ht)] at h4
        by_cases hl : (N.getD ((N.getD k nd0).to c) nd0).leaf = true
        · rw [if_pos hl, if_pos hl]
        · rw [if_neg hl, if_neg hl]
          rw [if_neg hl] at h4
          exact walk_take f N _ _ s (many + 1) h4 (fun x hx => hs x (by simp [hx]))
theorem find_zip (s : List UInt8) : ∀ (cs : List (List UInt8)) (ns : List Int), findR s cs ns = ((cs.zip ns).find? (fun p => p.1.isPrefixOf s)).map (fun p => (p.2, (p.1.length : Int)))
  | [], ns => by rw [findR.eq_def]; rfl
  | c :: cs, [] => by rw [findR.eq_def]; rfl
  | c :: cs, n :: ns => by
    rw [findR, List.zip_cons_cons, List.find?_cons, find_zip s cs ns]
    cases hp : c.isPrefixOf s with
    | true => simp
    | false => simp
theorem any_zip (f : List UInt8 → Bool) : ∀ (cs : List (List UInt8)) (ns : List Int), cs.length = ns.length → (cs.zip ns).any (fun p => f p.1) = cs.any f
  | [], ns, h => rfl
  | c :: cs, [], h => by simp at h
  | c :: cs, n :: ns, h => by rw [List.zip_cons_cons, List.any_cons, List.any_cons, any_zip f cs ns (by simpa using h)]
theorem getT_look (cs : List (List UInt8)) (ns : List Int) (s : List UInt8) (h : cs.length = ns.length) : getT cs ns s = lookD (cs.zip ns) s 0 := by
  unfold getT lookD
  rw [find_zip]
  cases (cs.zip ns).find? (fun p => p.1.isPrefixOf s) with
  | some p => simp
  | none => simp only [Option.map_none]; rw [any_zip _ cs ns h]
theorem bitC_or (l : List UInt8) (k : Nat) : bitC l k = 48 ∨ bitC l k = 49 := by unfold bitC; split <;> simp
theorem bitsL_or (l : List UInt8) (i n : Nat) : ∀ c ∈ bitsL l i n, c = 48 ∨ c = 49 := by
  intro c hc
  obtain ⟨j, _, rfl⟩ := List.mem_map.1 hc
  exact bitC_or l _
theorem bitsL_take (l : List UInt8) (i n m : Nat) : (bitsL l i n).take m = bitsL l i (min m n) := by
  unfold bitsL
  rw [← List.map_take, List.take_range]
/-- what a tree that is one answers is what the reference's does. -/
theorem walk_tree (N : List Nd) (cs : List (List UInt8)) (ns : List Int) (h : okT 24 N 0 (cs.zip ns) = true) (hl : cs.length = ns.length) (l : List UInt8) (i : Nat) :
    walkT N 0 (bitsL l i (8 * l.length - i)) 0 = treeR cs ns l i := by
  have h1 := bitsL_or l i (8 * l.length - i)
  rw [walk_take 24 N 0 _ _ 0 h h1, bitsL_take, walk_look 24 N 0 _ _ 0 h (bitsL_or _ _ _), ← getT_look cs ns _ hl, treeR, if_neg (by omega), Int.toNat_natCast]
theorem bitsL_cons (l : List UInt8) (i n : Nat) : bitsL l i (n + 1) = bitC l i :: bitsL l (i + 1) n := by
  unfold bitsL
  rw [List.range_succ_eq_map, List.map_cons, List.map_map]
  congr 1
  apply List.map_congr_left
  intro j _
  show bitC l (i + (j + 1)) = bitC l (i + 1 + j)
  congr 1
  omega
end Go.Proofs.YtcojnigkgbmbmaaGreatDoor
namespace Go.Proofs.YtcojnigkgbmbmaaGreatDoor
open Go Go.RowKit
/-- the codes of the kinds 1 to 10. -/
def kindC : List (List UInt8) := [[48, 48, 48, 49], [48, 48, 48, 48, 48, 48, 49], [49], [48, 48, 48, 48, 49], [48, 48, 48, 48, 48, 48, 48, 48, 49], [48, 48, 48, 48, 48, 48, 48, 49], [48, 48, 48, 48, 48, 48, 48, 48, 48, 49], [48, 48, 49], [48, 49], [48, 48, 48, 48, 48, 49]]
def kindN : List Int := (List.range 10).map fun (j : Nat) => (j : Int) + 1
/-- the codes of the differences -16 to 15. -/
def vecC : List (List UInt8) := [[48, 48, 48, 48, 48, 48, 49, 49, 48, 48, 49], [48, 48, 48, 48, 48, 48, 49, 49, 48, 49, 49], [48, 48, 48, 48, 48, 48, 49, 49, 49, 48, 49], [48, 48, 48, 48, 48, 48, 49, 49, 49, 49, 49], [48, 48, 48, 48, 48, 49, 48, 48, 48, 48, 49], [48, 48, 48, 48, 48, 49, 48, 48, 48, 49, 49], [48, 48, 48, 48, 48, 49, 48, 48, 49, 49], [48, 48, 48, 48, 48, 49, 48, 49, 48, 49], [48, 48, 48, 48, 48, 49, 48, 49, 49, 49], [48, 48, 48, 48, 48, 49, 49, 49], [48, 48, 48, 48, 49, 48, 48, 49], [48, 48, 48, 48, 49, 48, 49, 49], [48, 48, 48, 48, 49, 49, 49], [48, 48, 48, 49, 49], [48, 48, 49, 49], [48, 49, 49], [49], [48, 49, 48], [48, 48, 49, 48], [48, 48, 48, 49, 48], [48, 48, 48, 48, 49, 49, 48], [48, 48, 48, 48, 49, 48, 49, 48], [48, 48, 48, 48, 49, 48, 48, 48], [48, 48, 48, 48, 48, 49, 49, 48], [48, 48, 48, 48, 48, 49, 48, 49, 49, 48], [48, 48, 48, 48, 48, 49, 48, 49, 48, 48], [48, 48, 48, 48, 48, 49, 48, 48, 49, 48], [48, 48, 48, 48, 48, 49, 48, 48, 48, 49, 48], [48, 48, 48, 48, 48, 49, 48, 48, 48, 48, 48], [48, 48, 48, 48, 48, 48, 49, 49, 49, 49, 48], [48, 48, 48, 48, 48, 48, 49, 49, 49, 48, 48], [48, 48, 48, 48, 48, 48, 49, 49, 48, 49, 48]]
def vecN : List Int := (List.range 32).map fun (j : Nat) => (j : Int) - 16
/-- the codes of the patterns 1 to 63. -/
def patC : List (List UInt8) := [[48, 49, 48, 49, 49], [48, 49, 48, 48, 49], [48, 48, 49, 49, 48, 49], [49, 49, 48, 49], [48, 48, 49, 48, 49, 49, 49], [48, 48, 49, 48, 48, 49, 49], [48, 48, 48, 49, 49, 49, 49, 49], [49, 49, 48, 48], [48, 48, 49, 48, 49, 49, 48], [48, 48, 49, 48, 48, 49, 48], [48, 48, 48, 49, 49, 49, 49, 48], [49, 48, 48, 49, 49], [48, 48, 48, 49, 49, 48, 49, 49], [48, 48, 48, 49, 48, 49, 49, 49], [48, 48, 48, 49, 48, 48, 49, 49], [49, 48, 49, 49], [48, 48, 49, 48, 49, 48, 49], [48, 48, 49, 48, 48, 48, 49], [48, 48, 48, 49, 49, 49, 48, 49], [49, 48, 48, 48, 49], [48, 48, 48, 49, 49, 48, 48, 49], [48, 48, 48, 49, 48, 49, 48, 49], [48, 48, 48, 49, 48, 48, 48, 49], [48, 48, 49, 49, 49, 49], [48, 48, 48, 48, 49, 49, 49, 49], [48, 48, 48, 48, 49, 49, 48, 49], [48, 48, 48, 48, 48, 48, 48, 49, 49], [48, 49, 49, 49, 49], [48, 48, 48, 48, 49, 48, 49, 49], [48, 48, 48, 48, 48, 49, 49, 49], [48, 48, 48, 48, 48, 48, 49, 49, 49], [49, 48, 49, 48], [48, 48, 49, 48, 49, 48, 48], [48, 48, 49, 48, 48, 48, 48], [48, 48, 48, 49, 49, 49, 48, 48], [48, 48, 49, 49, 49, 48], [48, 48, 48, 48, 49, 49, 49, 48], [48, 48, 48, 48, 49, 49, 48, 48], [48, 48, 48, 48, 48, 48, 48, 49, 48], [49, 48, 48, 48, 48], [48, 48, 48, 49, 49, 48, 48, 48], [48, 48, 48, 49, 48, 49, 48, 48], [48, 48, 48, 49, 48, 48, 48, 48], [48, 49, 49, 49, 48], [48, 48, 48, 48, 49, 48, 49, 48], [48, 48, 48, 48, 48, 49, 49, 48], [48, 48, 48, 48, 48, 48, 49, 49, 48], [49, 48, 48, 49, 48], [48, 48, 48, 49, 49, 48, 49, 48], [48, 48, 48, 49, 48, 49, 49, 48], [48, 48, 48, 49, 48, 48, 49, 48], [48, 49, 49, 48, 49], [48, 48, 48, 48, 49, 48, 48, 49], [48, 48, 48, 48, 48, 49, 48, 49], [48, 48, 48, 48, 48, 48, 49, 48, 49], [48, 49, 49, 48, 48], [48, 48, 48, 48, 49, 48, 48, 48], [48, 48, 48, 48, 48, 49, 48, 48], [48, 48, 48, 48, 48, 48, 49, 48, 48], [49, 49, 49], [48, 49, 48, 49, 48], [48, 49, 48, 48, 48], [48, 48, 49, 49, 48, 48]]
def patN : List Int := (List.range 63).map fun (j : Nat) => (j : Int) + 1
theorem kind_ok : okT 24 (treeN kindC kindN) 0 (kindC.zip kindN) = true := by kernel_rfl
theorem kind_wf : wfN (treeN kindC kindN) = true := by kernel_rfl
theorem kind_put : (putAll [nd0] kindC kindN).isSome = true := by kernel_rfl
theorem kind_code : kindC.all isCode = true := by kernel_rfl
theorem vec_ok : okT 24 (treeN vecC vecN) 0 (vecC.zip vecN) = true := by kernel_rfl
theorem vec_wf : wfN (treeN vecC vecN) = true := by kernel_rfl
theorem vec_put : (putAll [nd0] vecC vecN).isSome = true := by kernel_rfl
theorem vec_code : vecC.all isCode = true := by kernel_rfl
theorem pat_ok : okT 24 (treeN patC patN) 0 (patC.zip patN) = true := by kernel_rfl
theorem pat_wf : wfN (treeN patC patN) = true := by kernel_rfl
theorem pat_put : (putAll [nd0] patC patN).isSome = true := by kernel_rfl
theorem pat_code : patC.all isCode = true := by kernel_rfl
end Go.Proofs.YtcojnigkgbmbmaaGreatDoor
namespace Go.Proofs.YtcojnigkgbmbmaaGreatDoor
open Go Go.RowKit
def bitD (L : List UInt8) (k : Nat) : Nat := if L[k]? = some 49 then 1 else 0
def byteP (L : List UInt8) (j : Nat) : Nat := 128 * bitD L (8 * j) + 64 * bitD L (8 * j + 1) + 32 * bitD L (8 * j + 2) + 16 * bitD L (8 * j + 3) + 8 * bitD L (8 * j + 4) + 4 * bitD L (8 * j + 5) + 2 * bitD L (8 * j + 6) + bitD L (8 * j + 7)
/-- the bytes of some bits. -/
def packL (L : List UInt8) : List UInt8 := (List.range ((L.length + 7) / 8)).map fun j => UInt8.ofNat (byteP L j)
end Go.Proofs.YtcojnigkgbmbmaaGreatDoor
namespace Go.Proofs.YtcojnigkgbmbmaaGreatDoor
open Go Go.RowKit
theorem u64_and_1 (x : Nat) (hx : x < 18446744073709551616) : bits .and .u64 (x : Int) 1 = ((x % 2 : Nat) : Int) := by
  have := u64_and_nat x 1 hx (by decide)
  rw [Nat.and_one_is_mod] at this
  exact this
def binC (n j : Nat) : UInt8 := if n / 2 ^ j % 2 = 0 then 48 else 49
/-- the low j digits of n, the highest of them first -/
def binD (n : Nat) : Nat → List UInt8
  | 0 => []
  | j + 1 => binC n j :: binD n j
theorem binD_length (n j : Nat) : (binD n j).length = j := by induction j with | zero => rfl | succ j ih => simp [binD, ih]
/-- The cell that is read of the table. -/
def Tz (w : World) : Prop := w.cell? ⟨7, 1, none⟩ = some (.int .u8 1)
theorem Tz.lt {w : World} (h : Tz w) : 7 < w.heap.size := by
  unfold Tz at h
  rcases Nat.lt_or_ge 7 w.heap.size with hlt | hge
  · exact hlt
  · simp [World.cell?, Array.getElem?_eq_none hge] at h
theorem Tz.below {w w' : World} (h : Tz w) (hb : Below w.heap.size w w') : Tz w' := by
  unfold Tz at *
  have hl : 7 < w.heap.size := by
    rcases Nat.lt_or_ge 7 w.heap.size with hlt | hge
    · exact hlt
    · simp [World.cell?, Array.getElem?_eq_none hge] at h
  rw [← h]
  exact hb.cell (p := ⟨7, 1, none⟩) hl
theorem tz64 (w : World) (h : Tz w) : Calls Tryz.prog 199 #[.int .u64 2] w fun e w' => e = .returned (.int .i64 1) ∧ w = w' := by
  unfold Tz at h
  have hq : bits BinOp.and IntKind.u64 2 (IntKind.u64.wrap (-2)) = 2 := by decide +kernel
  go_enter Tryz.func199, Tryz.ntmps199
  go_wp2
  go_ret
  exact ⟨rfl, rfl⟩
theorem isp2 (w : World) : Calls Tryz.prog 194 #[.int .i64 2] w fun e w' => e = .returned (.bool true) ∧ w = w' := by
  have h : bits BinOp.and IntKind.i64 2 1 = 0 := by decide +kernel
  go_enter Tryz.func194, Tryz.ntmps194
  go_wp2
  go_ret
  exact ⟨rfl, rfl⟩
theorem tz (w : World) (h : Tz w) : Calls Tryz.prog 195 #[.int .u64 2] w fun e w' => e = .returned (.int .i64 1) ∧ w = w' := by
  have H := Lib.hid h; clear h
  go_enter Tryz.func195, Tryz.ntmps195
  go_wp2_with (go_at_call 199; refine (tz64 _ H.out).mono ?_; rintro e w' ⟨rfl, rfl⟩)
  go_ret
  exact ⟨rfl, rfl⟩
theorem pow_div_ge (n k j : Nat) (hk : 2 ^ k ≤ n) (hj : j < k) : 2 ≤ n / 2 ^ j := by
  rw [Nat.le_div_iff_mul_le (Nat.two_pow_pos j)]
  have : 2 ^ (j + 1) ≤ 2 ^ k := Nat.pow_le_pow_right (by decide) hj
  rw [Nat.pow_succ] at this
  omega
theorem pow_div_one (n k : Nat) (hk : 2 ^ k ≤ n) (hk2 : n < 2 ^ (k + 1)) : n / 2 ^ k = 1 := by
  have h1 : 1 ≤ n / 2 ^ k := by rw [Nat.le_div_iff_mul_le (Nat.two_pow_pos k)]; omega
  have h2 : n / 2 ^ k < 2 := by rw [Nat.div_lt_iff_lt_mul (Nat.two_pow_pos k)]; rw [Nat.pow_succ] at hk2; omega
  omega
/-- what the buffer holds when j digits are there: from 65 - j on -/
def Dig (n : Nat) (cs : Array Value) (j : Nat) : Prop := cs.size = 65 ∧ cs.toList.drop (65 - j) = (binD n j).map byteV
theorem Dig.step {n j : Nat} {cs : Array Value} (h : Dig n cs j) (hj : j < 65) {v : Value} (hv : v = byteV (binC n j)) : Dig n (cs.setIfInBounds (64 - j) v) (j + 1) := by
  obtain ⟨h1, h2⟩ := h
  subst hv
  refine ⟨by simpa using h1, ?_⟩
  have e : 65 - (j + 1) = 64 - j := by omega
  have hl : 64 - j < (cs.toList.set (64 - j) (byteV (binC n j))).length := by simp; omega
  rw [e, Array.toList_setIfInBounds, List.drop_eq_getElem_cons hl, List.getElem_set_self, List.drop_set_of_lt (by omega), show 64 - j + 1 = 65 - j by omega, h2]
  rfl
set_option maxHeartbeats 1000000 in
set_option maxRecDepth 100000 in
theorem formatBits2 (n : Nat) (k : Nat) (hk : 2 ^ k ≤ n) (hk2 : n < 2 ^ (k + 1)) (hkk : k < 32) (w : World) (hT : Tz w) :
    Calls Tryz.prog 187 #[.slice none 0 0, .int .u64 n, .int .i64 2, .bool false, .bool false] w
      fun e w' => e = .returned (.tuple #[.slice none 0 0, .string (bs (binD n (k + 1)))]) ∧ Below w.heap.size w w' := by
  have hn32 : n < 2 ^ 32 := Nat.lt_of_lt_of_le hk2 (Nat.pow_le_pow_right (by decide) (by omega))
  go_enter Tryz.func187, Tryz.ntmps187
  go_wp2_with (first | (go_at_call 194; refine (isp2 _).mono ?_; rintro e w' ⟨rfl, rfl⟩) | (go_at_call 195; refine (tz _ (hT.below ((Below.refl _ _).alloc (Nat.le_refl _) _))).mono ?_; rintro e w' ⟨rfl, rfl⟩))
  go_loopw [1, 13] (fun u i wr => ∃ (j m q : Nat) (cs : Array Value), m + j = 65 ∧ j ≤ k ∧ Hid (q = n / 2 ^ j) ∧ u = .int .u64 (q : Int) ∧ i = .int .i64 (m : Int) ∧ Blk wr w.heap.size 243 cs ∧ Dig n cs j ∧ Below w.heap.size w wr) (fun u _ _ => (intOf u).toNat)
  case atStart => exact ⟨0, 65, n, _, by omega, by omega, Lib.hid (by simp), rfl, rfl, Blk.new _ _ _, ⟨by kernel_rfl, by kernel_rfl⟩, (Below.refl _ _).alloc (Nat.le_refl _) _⟩
  case round =>
    obtain ⟨j, m, q, cs, hm, hj, Hq, rfl, rfl, hblk, hdig, hbel⟩ := hrel
    have hq0 : q ≤ n := by rw [Hq.out]; exact Nat.div_le_self _ _
    obtain ⟨v0, hc64⟩ : ∃ v0, wr.cell? ⟨w.heap.size, m - 1, none⟩ = some v0 := ⟨cs[m - 1]'(by rw [hdig.1]; omega), by rw [hblk.cell]; simp⟩
    have hf64 := hblk.frozen (m - 1)
    have Hst : ∀ v, v = byteV (binC n j) → Blk (wr.setCell ⟨w.heap.size, m - 1, none⟩ v) w.heap.size 243 (cs.setIfInBounds (m - 1) v) ∧ Dig n (cs.setIfInBounds (m - 1) v) (j + 1) ∧ Below w.heap.size w (wr.setCell ⟨w.heap.size, m - 1, none⟩ v) := fun v hv => by
      refine ⟨hblk.set_ _ _, ?_, hbel.setCell (p := ⟨w.heap.size, m - 1, none⟩) (Nat.le_refl _) _⟩
      have h64 := hdig.step (by omega) hv
      rwa [show 64 - j = m - 1 by omega] at h64
    have Hst := Lib.hid Hst
    by_cases hlt : j < k
    · have hge : 2 ≤ q := by rw [Hq.out]; exact pow_div_ge n k j hk hlt
      have hand := u64_and_1 q (by omega)
      have hqq : q / 2 = n / 2 ^ (j + 1) := by rw [Hq.out, Nat.div_div_eq_div_mul, Nat.pow_succ]
      have Hqq := Lib.hid hqq
      clear hqq
      by_cases hz : q % 2 = 0
      · have hb : byteV (binC n j) = .int .u8 48 := by simp [binC, ← Hq.out, hz, byteV]
        have Hb := Lib.hid hb
        rw [hz] at hand
        clear hb hz
        go_wp2
        obtain ⟨h1, h2, h3⟩ := Hst.out _ Hb.out.symm
        exact ⟨⟨j + 1, m - 1, q / 2, _, by omega, by omega, Hqq, by simp, by congr 1; omega, h1, h2, h3⟩, by simp [intOf]; omega⟩
      · have hz1 : q % 2 = 1 := by omega
        have hb : byteV (binC n j) = .int .u8 49 := by simp [binC, ← Hq.out, hz, byteV]
        have Hb := Lib.hid hb
        rw [hz1] at hand
        clear hb hz hz1
        go_wp2
        obtain ⟨h1, h2, h3⟩ := Hst.out _ Hb.out.symm
        exact ⟨⟨j + 1, m - 1, q / 2, _, by omega, by omega, Hqq, by simp, by congr 1; omega, h1, h2, h3⟩, by simp [intOf]; omega⟩
    · obtain rfl : j = k := by omega
      obtain rfl : q = 1 := by rw [Hq.out]; exact pow_div_one n j hk hk2
      have hb : byteV (binC n j) = .int .u8 49 := by simp [binC, ← Hq.out, byteV]
      have Hb := Lib.hid hb
      clear hb
      have hsl := run_arr_from (P := Tryz.prog) 243 5 65 1 ⟨w.heap.size, 0, none⟩ (by kernel_rfl) (by kernel_rfl) ((m : Int) - 1) (m - 1) (by omega) (by omega)
      obtain ⟨h1, h2, h3⟩ := Hst.out _ Hb.out.symm
      have hdig : ({ data := #[48, 49, 50, 51, 52, 53, 54, 55, 56, 57, 97, 98, 99, 100, 101, 102, 103, 104, 105, 106, 107, 108, 109, 110, 111, 112, 113, 114, 115, 116, 117, 118, 119, 120, 121, 122] } : ByteArray)[1].toNat = 49 := by decide
      have hS := h1.sl (m - 1)
      rw [show (cs.setIfInBounds (m - 1) (.int .u8 49)).toList.drop (m - 1) = (binD n (j + 1)).map byteV by rw [show m - 1 = 65 - (j + 1) by omega]; rw [show m - 1 = 65 - (j + 1) by omega] at h2; exact h2.2] at hS
      have hcv := run_bytes_str (P := Tryz.prog) 22 9 5 (by kernel_rfl) (by kernel_rfl) (by kernel_rfl) hS (65 - (m - 1)) (65 - (m - 1)) (by rw [binD_length]; omega)
      go_wp2
      go_ret2
      exact ⟨rfl, h3⟩
theorem fmt2i (n : Nat) (k : Nat) (hk : 2 ^ k ≤ n) (hk2 : n < 2 ^ (k + 1)) (hkk : k < 32) (w : World) (hT : Tz w) :
    Calls Tryz.prog 174 #[.int .i64 n, .int .i64 2] w fun e w' => e = .returned (.string (bs (binD n (k + 1)))) ∧ Below w.heap.size w w' := by
  have HT := Lib.hid hT; clear hT
  have hn32 : n < 2 ^ 32 := Nat.lt_of_lt_of_le hk2 (Nat.pow_le_pow_right (by decide) (by omega))
  have h0 : decide ((n : Int) < 0) = false := by simp
  go_enter Tryz.func174, Tryz.ntmps174
  go_wp2_with (go_at_call 187; refine (formatBits2 n k hk hk2 hkk _ HT.out).mono ?_; rintro e w' ⟨rfl, hb⟩)
  go_ret
  exact ⟨rfl, hb⟩
theorem fmt2 (n : Int) (k : Nat) (hk : 2 ^ k ≤ n.toNat) (hk2 : n.toNat < 2 ^ (k + 1)) (hkk : k < 32) (w : World) (hT : Tz w) :
    Calls Tryz.prog 160 #[.int .i64 n, .int .i64 2] w fun e w' => e = .returned (.string (bs (binD n.toNat (k + 1)))) ∧ Below w.heap.size w w' := by
  have HT := Lib.hid hT; clear hT
  obtain ⟨n, rfl⟩ : ∃ m : Nat, n = m := ⟨n.toNat, by have := Nat.one_le_two_pow (n := k); omega⟩
  rw [Int.toNat_natCast] at hk hk2 ⊢
  go_enter Tryz.func160, Tryz.ntmps160
  go_wp2_with (go_at_call 174; refine (fmt2i n k hk hk2 hkk _ HT.out).mono ?_; rintro e w' ⟨rfl, hb⟩)
  go_ret
  exact ⟨rfl, hb⟩
end Go.Proofs.YtcojnigkgbmbmaaGreatDoor
