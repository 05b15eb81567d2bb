/- strings.Builder's WriteByte at this translation; the program's hex and unhex. -/
import Derived.Test.YthcbidbhkikhmaaDoorByt31
import Derived.Test.YthcbidbhkikhmaaDoorShelf
namespace Go.Proofs.YthcbidbhkikhmaaDoor
open Go Go.RowKit
abbrev BT : TypeId := 77
set_option maxRecDepth 100000 in
theorem bld_used (b : Nat) (w : World) (h0 : w.cell? ⟨b, 0, none⟩ = some (.pointer (some ⟨b, 0, none⟩))) :
    Calls Tryd.prog 53 #[.pointer (some ⟨b, 0, none⟩)] w fun e w' => e = .returned (.tuple #[]) ∧ w' = w := by
  obtain ⟨j, hj, _⟩ := Option.map_eq_some_iff.1 (show (Tryd.prog.info? 77).map (·.size) = some 2 by kernel_rfl)
  go_enter Tryd.func53, Tryd.ntmps53
  go_wp2_with fail
  rw [Lib.run_neq_ptr_same w _ Tryd.underlying75 hj]
  go_wp2_with fail
  go_end0
  exact ⟨rfl, rfl⟩
set_option maxRecDepth 100000 in
theorem bld_fresh (b : Nat) (w : World) (h0 : w.cell? ⟨b, 0, none⟩ = some (.pointer none)) (hsh : w.shape? b = some (77, 2)) (hfz : w.frozen? ⟨b, 0, none⟩ = false) :
    Calls Tryd.prog 53 #[.pointer (some ⟨b, 0, none⟩)] w fun e w' => e = .returned (.tuple #[]) ∧ w' = w.setCell ⟨b, 0, none⟩ (.pointer (some ⟨b, 0, none⟩)) := by
  obtain ⟨j, hj, hjs⟩ := Option.map_eq_some_iff.1 (show (Tryd.prog.info? 77).map (·.size) = some 2 by kernel_rfl)
  go_enter Tryd.func53, Tryd.ntmps53
  go_wp2
  rw [Lib.run_to_unsafe w ⟨b, 0, none⟩ Tryd.underlying75 Tryd.underlying99 hj (by rw [hjs]; decide) hsh (Nat.zero_lt_succ 1)]
  simp only [Result.andThen]
  rw [Oper.upon_value]
  go_wp2
  rw [run_callFunc_extern Tryd.func62 (by kernel_rfl) (by kernel_rfl) (by kernel_rfl) (e := Extern.AbiNoEscape.same) (by kernel_rfl)]
  rw [Lib.run_noEscape]
  simp only [Result.andThen]
  rw [Oper.upon_value]
  go_wp2
  rw [Lib.run_from_unsafe w ⟨b, 0, none⟩ Tryd.underlying99 Tryd.underlying75 hj hsh (by kernel_rfl)]
  simp only [Result.andThen]
  rw [Oper.upon_value]
  go_wp2
  go_end0
  exact ⟨rfl, rfl⟩
theorem bld_check (B b : Nat) (bs : List Value) (w : World) (h : Lib.IsBuilder 77 5 B b bs w) :
    Calls Tryd.prog 53 #[.pointer (some ⟨b, 0, none⟩)] w fun e w' => e = .returned (.tuple #[]) ∧ (Lib.BuilderAt 77 5 B b (.pointer (some ⟨b, 0, none⟩)) bs w' ∧ Below B w w') := by
  rcases h with h | h
  · refine (bld_fresh b w h.cell0 h.shape h.frozen0).mono ?_
    rintro e w' ⟨rfl, rfl⟩
    exact ⟨rfl, h.used _, (Below.refl B w).setCell (p := ⟨b, 0, none⟩) h.1 _⟩
  · refine (bld_used b w h.cell0).mono ?_
    rintro e w' ⟨rfl, rfl⟩
    exact ⟨rfl, h, Below.refl B _⟩
def BldPost (B b : Nat) (bs : List Value) (w : World) (e : Ending) (w' : World) : Prop := e = .returned .nilIface ∧ Lib.IsBuilder 77 5 B b bs w' ∧ Below B w w'
set_option maxRecDepth 100000 in
set_option maxHeartbeats 2000000 in
theorem bld_write (B b : Nat) (bs : List Value) (c : Int) (w : World) (h : Lib.IsBuilder 77 5 B b bs w) (hlen : bs.length + 1 ≤ 140737488355328) (hBw : B ≤ w.heap.size) :
    Calls Tryd.prog 43 #[.pointer (some ⟨b, 0, none⟩), .int .u8 c] w (BldPost B b (bs ++ [.int .u8 c]) w) := by
  go_enter Tryd.func43, Tryd.ntmps43
  go_wp2_with (go_at_call 53; refine (bld_check B b bs _ h).mono ?_)
  rintro e w1 ⟨rfl, h1, hb1⟩
  obtain ⟨hB, v, hbk, hown, hne⟩ := h1
  have c0 : w1.cell? ⟨b, 0, none⟩ = some (.pointer (some ⟨b, 0, none⟩)) := by rw [Lib.cell_of_heap hbk]; rfl
  have c1 : w1.cell? ⟨b, 1, none⟩ = some v := by rw [Lib.cell_of_heap hbk]; rfl
  go_wp2_with (at_builtin; refine wpList_app etByte rfl rfl rfl (hown.alloc _) rfl (m := 1) (news := [.int .u8 c]) rfl (Blk.sl (Blk.new w1 5 _) 0) ?c2 ?c4 ?c5 ?_)
  case c2 => intro u hu; simp at hu; subst hu; rfl
  case c4 => omega
  case c5 => have := hb1.size; simp; omega
  intro v' w2 hown' hgrow _
  have hlt : b < w1.heap.size := by
    rcases Nat.lt_or_ge b w1.heap.size with h' | h'
    · exact h'
    · simp [Array.getElem?_eq_none h'] at hbk
  have hb2 : w2.heap[b]? = some (.cells #[.pointer (some ⟨b, 0, none⟩), v] 77 (0, 0)) := by
    rw [hgrow.block b (by simp; omega) (fun e => hne e.symm), Lib.alloc_old w1 _ b hlt]
    exact hbk
  have d0 : w2.cell? ⟨b, 0, none⟩ = some (.pointer (some ⟨b, 0, none⟩)) := by rw [Lib.cell_of_heap hb2]; rfl
  have d1 : w2.cell? ⟨b, 1, none⟩ = some v := by rw [Lib.cell_of_heap hb2]; rfl
  have f1 : w2.frozen? ⟨b, 1, none⟩ = false := Lib.frozen_of_heap hb2 1
  obtain ⟨g, cap, rfl⟩ : ∃ g cap, v' = .slice (some ⟨g, 0, none⟩) (bs.length + 1) cap := by
    rcases hown'.2 with ⟨_, h0⟩ | ⟨g, cap, cur, hv, _⟩
    · omega
    · exact ⟨g, cap, hv⟩
  go_wp2_with fail
  go_ret
  refine ⟨rfl, .inr ?_, ?_⟩
  · exact Lib.BuilderAt.put (T := 77) (e := 5) hB hb2 (bs' := bs ++ [.int .u8 c]) (by simpa using hown') (by decide)
  · exact ((hb1.alloc (by have := hb1.size; omega) _).grown hgrow (by have := hb1.size; simp; omega) (fun k hk => (hown.lt k hk).1)).setCell (p := ⟨b, 1, none⟩) hB _
theorem u8_and_15 (b : Nat) (hb : b < 256) : bits .and .u8 (b : Int) 15 = ((b % 16 : Nat) : Int) := by
  show IntKind.u8.wrap ((BitVec.ofInt 8 (b : Int) &&& BitVec.ofInt 8 15).toNat : Int) = _
  rw [BitVec.ofInt_natCast, BitVec.toNat_and, BitVec.toNat_ofNat, Nat.mod_eq_of_lt (by omega)]
  rw [show (BitVec.ofInt 8 15).toNat = 2 ^ 4 - 1 from rfl, Nat.and_two_pow_sub_one_eq_mod]
  exact u8_in _ (by omega) (by omega)
theorem bld_new (w : World) : Lib.IsBuilder 77 5 w.heap.size w.heap.size [] (w.alloc (.cells #[.pointer none, .slice none 0 0] 77)) :=
  .inl ⟨Nat.le_refl _, _, heap_alloc_new w _, World.ownsRow_nil _ _ _ _, by simp [Value.ownBlock]⟩
set_option maxRecDepth 100000 in
set_option maxHeartbeats 2000000 in
theorem lines_hex (A : Option Addr) (n c : Nat) (l : List UInt8) (w : World) (hA : Sl w A (l.map byteV)) (hn : l.length = n) (hsz : n ≤ 10000) :
    Calls Tryd.prog 30 #[.slice A n c] w fun e w' => e = .returned (.string (bs (hexR l))) ∧ Below w.heap.size w w' := by
  have HA := Lib.hid hA; clear hA
  by_cases h0 : l = []
  · subst h0
    obtain rfl : n = 0 := hn.symm
    have hr : hexR [] = [45] := rfl
    rw [hr]
    go_enter Tryd.func30, Tryd.ntmps30
    go_wp2_with fail
    go_ret
    exact ⟨rfl, Below.refl _ _⟩
  have hr : hexR l = hexL l := if_neg h0
  rw [hr]
  have hpos : 0 < n := by rw [← hn]; exact List.length_pos_iff.2 h0
  have q0 : ((n : Int) == 0) = false := by rw [beq_eq_false_iff_ne]; omega
  clear h0 hr
  have Hn := Lib.hid hn; clear hn
  go_enter Tryd.func30, Tryd.ntmps30
  go_wp2_with fail
  go_loopg [11] n (fun g i => fun wr => ∃ (j : Nat), j + g = n ∧ i = .int .i64 (j : Int) ∧ Lib.IsBuilder 77 5 w.heap.size w.heap.size ((hexL (l.take j)).map byteV) wr ∧ Below w.heap.size w wr)
  case atStart => exact ⟨0, by omega, rfl, bld_new w, (Below.refl _ _).alloc (Nat.le_refl _) _⟩
  case round =>
    obtain ⟨j, hj, rfl, hB, hb⟩ := hrel
    have HB := Lib.hid hB; clear hB
    cases gk with
    | zero =>
      obtain rfl : j = n := by omega
      have hlt : ¬ ((j : Int) < (j : Int)) := by omega
      have HL : l.take j = l := List.take_of_length_le (by rw [Hn.out]; exact Nat.le_refl _)
      rw [HL] at HB
      clear HL
      go_wp2_with (go_at_call 44; refine (Tryd.Builder_String_any _ _ (hexL l) _ HB.out hb.size).mono ?_; rintro e w' ⟨rfl, hb1⟩)
      go_ret
      exact ⟨rfl, hb.trans hb1⟩
    | succ g =>
      have hlt : ((j : Int) < (n : Int)) := by omega
      have hjl : j < l.length := by rw [Hn.out]; omega
      obtain ⟨ad, rfl, hadl, hc⟩ := (HA.out.below hb).byte j hjl
      have Hs := Lib.hid (hexL_succ l j hjl)
      have hL := hexL_length (l.take j)
      rw [List.length_take, Nat.min_eq_left (by omega)] at hL
      have HL := Lib.hid hL; clear hL
      have hb256 : l[j].toNat < 256 := UInt8.toNat_lt _
      generalize l[j].toNat = b at hc Hs hb256
      obtain ⟨h, hh⟩ : ∃ h, h = b / 16 := ⟨_, rfl⟩
      obtain ⟨m, hm⟩ : ∃ m, m = b % 16 := ⟨_, rfl⟩
      have e1 : (b : Int) / 16 = (h : Int) := by omega
      have e2 : bits .and .u8 (b : Int) 15 = (m : Int) := by rw [u8_and_15 b hb256]; omega
      have e6 : (0 : Int) ≤ (m : Int) := by omega
      have e7 : (0 : Int) ≤ (h : Int) := by omega
      have e3 : IntKind.u8.wrap (h : Int) = (h : Int) := u8_in _ (by omega) (by omega)
      have hh16 : (h : Int) < 16 := by omega
      have hm16 : (m : Int) < 16 := by omega
      rw [← hh, ← hm] at Hs
      clear hh hm
      have hg := hex_get
      have HJ := Lib.hid hj
      have hl1 : ((hexL (l.take j)).map byteV).length + 2 ≤ 140737488355328 := by rw [List.length_map, HL.out]; omega
      have HL1 := Lib.hid hl1; clear hl1
      clear hj
      go_wp2_with (go_at_call 43; first
        | (refine (bld_write w.heap.size w.heap.size _ ((hexD h).toNat : Int) wr HB.out (by have := HL1.out; omega) hb.size).mono ?_; rintro e w1 ⟨rfl, hB1, hb1⟩; have HB1 := Lib.hid hB1; clear hB1; have Hb1 := Lib.hid (hb.trans hb1); clear hb1 HB)
        | (refine (bld_write w.heap.size w.heap.size _ ((hexD m).toNat : Int) w1 HB1.out (by have := HL1.out; rw [List.length_append]; exact this) Hb1.out.size).mono ?_; rintro e w2 ⟨rfl, hB2, hb2⟩; have HB2 := Lib.hid hB2; clear hB2; have Hb2 := Lib.hid (Hb1.out.trans hb2); clear hb2))
      go_roundg g
      case measure => omega
      case rel =>
        refine ⟨j + 1, by have := HJ.out; omega, rfl, ?_, Hb2.out⟩
        have h1 := HB2.out
        rw [Hs.out, List.map_append]
        rw [List.append_assoc] at h1
        exact h1
end Go.Proofs.YthcbidbhkikhmaaDoor
