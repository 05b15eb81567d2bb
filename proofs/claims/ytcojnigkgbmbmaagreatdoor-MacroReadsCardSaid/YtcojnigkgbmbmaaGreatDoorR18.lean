/- Blk1, MBk, Same, SameM, Long19 -/
import Derived.Test.YtcojnigkgbmbmaaGreatDoorR17
import Derived.Test.YtcojnigkgbmbmaaGreatDoorR16
namespace Go.Proofs.YtcojnigkgbmbmaaGreatDoor
open Go Go.RowKit
attribute [local go_sem] Oper.semAt_some
def kndV (dc : Int) (A : Option Addr) (n c : Nat) (intra : Bool) : Value := .agg #[.int .i64 dc, .slice A n c, .bool intra]
def dcP (dc : Int) (n : Nat) (intra : Bool) : Int :=
  if intra && (decide (dc < 1) || decide (255 < dc) || dc == 128) then 10 else if !intra && (dc != 0 || n == 0) then 2 else 0
theorem bchk_dc (x : BlkM) (intra : Bool) : bchkP x intra = if dcP x.dc x.l.length intra == 0 then spreadP x.l (frstP intra) else dcP x.dc x.l.length intra := by
  have hl : (x.l == []) = (x.l.length == 0) := by cases x.l <;> rfl
  unfold bchkP dcP
  rw [hl]
  split
  · rfl
  · split
    · rfl
    · rfl
theorem block_first (dc : Int) (A : Option Addr) (n c : Nat) (intra : Bool) (w : World) : Calls Tryz.prog 139 #[kndV dc A n c intra] w fun e w' => e = .returned (.int .i64 (frstP intra)) ∧ Below w.heap.size w w' := by
  unfold kndV
  cases intra with
  | false =>
    go_enter Tryz.func139, Tryz.ntmps139
    go_wp2
    go_ret
    exact ⟨rfl, (Below.refl _ _).alloc (Nat.le_refl _) _⟩
  | true =>
    go_enter Tryz.func139, Tryz.ntmps139
    go_wp2
    go_ret
    exact ⟨rfl, (Below.refl _ _).alloc (Nat.le_refl _) _⟩
theorem block_dc (dc : Int) (A : Option Addr) (n c : Nat) (intra : Bool) (w : World) : Calls Tryz.prog 106 #[kndV dc A n c intra] w fun e w' => e = .returned (.int .i64 (dcP dc n intra)) ∧ Below w.heap.size w w' := by
  unfold kndV dcP
  cases intra with
  | true =>
    rw [Bool.true_and, Bool.not_true, Bool.false_and]
    cases d1 : decide (dc < 1) with
    | true =>
      rw [Bool.true_or, Bool.true_or, if_pos rfl]
      go_enter Tryz.func106, Tryz.ntmps106
      go_wp2
      go_ret
      exact ⟨rfl, (Below.refl _ _).alloc (Nat.le_refl _) _⟩
    | false =>
      cases d2 : decide (255 < dc) with
      | true =>
        rw [Bool.false_or, Bool.true_or, if_pos rfl]
        go_enter Tryz.func106, Tryz.ntmps106
        go_wp2
        go_ret
        exact ⟨rfl, (Below.refl _ _).alloc (Nat.le_refl _) _⟩
      | false =>
        cases d3 : (dc == 128) with
        | true =>
          rw [Bool.false_or, Bool.false_or, if_pos rfl]
          go_enter Tryz.func106, Tryz.ntmps106
          go_wp2
          go_ret
          exact ⟨rfl, (Below.refl _ _).alloc (Nat.le_refl _) _⟩
        | false =>
          rw [Bool.false_or, Bool.false_or, if_neg (by decide), if_neg (by decide)]
          go_enter Tryz.func106, Tryz.ntmps106
          go_wp2
          go_ret
          exact ⟨rfl, (Below.refl _ _).alloc (Nat.le_refl _) _⟩
  | false =>
    rw [Bool.false_and, Bool.not_false, Bool.true_and, if_neg (by decide)]
    cases d1 : (dc != 0) with
    | true =>
      rw [Bool.true_or, if_pos rfl]
      go_enter Tryz.func106, Tryz.ntmps106
      go_wp2
      go_ret
      exact ⟨rfl, (Below.refl _ _).alloc (Nat.le_refl _) _⟩
    | false =>
      rw [Bool.false_or]
      rcases Nat.eq_zero_or_pos n with rfl | hn
      · rw [if_pos (show ((0 : Nat) == 0) = true from rfl)]
        go_enter Tryz.func106, Tryz.ntmps106
        go_wp2
        go_ret
        exact ⟨rfl, (Below.refl _ _).alloc (Nat.le_refl _) _⟩
      · have d2 : (n == 0) = false := by simp; omega
        have d3 : ((n : Int) == 0) = false := by simp; omega
        rw [d2, if_neg (by decide)]
        go_enter Tryz.func106, Tryz.ntmps106
        go_wp2
        go_ret
        exact ⟨rfl, (Below.refl _ _).alloc (Nat.le_refl _) _⟩
set_option maxRecDepth 100000 in
theorem block_pairs (dc : Int) (l : List (Int × Int)) (A : Option Addr) (n c : Nat) (intra : Bool) (w : World) (hS : Sl w A (rowC pairC l)) (hn : l.length = n) (hsz : n ≤ 1099511627776) : Calls Tryz.prog 107 #[kndV dc A n c intra] w fun e w' => e = .returned (.int .i64 (spreadP l (frstP intra))) ∧ Below w.heap.size w w' := by
  have hfr : frstP intra = 0 ∨ frstP intra = 1 := by cases intra; exact .inl rfl; exact .inr rfl
  have C1 := Lib.hid (fun W => block_first dc A n c intra W)
  have C2 := Lib.hid (fun W hW => scan_Spread l A n c (frstP intra) hfr W hW hn hsz)
  have HS := Lib.hid hS
  unfold kndV at C1 ⊢
  generalize frstP intra = fr at *
  obtain ⟨sp, hsp⟩ : ∃ sp, spreadP l fr = sp := ⟨_, rfl⟩
  rw [hsp]
  clear hS hfr hn hsz
  go_enter Tryz.func107, Tryz.ntmps107
  go_wp2_with fail
  have hb0 : Blk (w.alloc (.cells #[.int .i64 dc, .slice A n c, .bool intra] 135)).drew w.heap.size 135 #[.int .i64 dc, .slice A n c, .bool intra] := (Blk.new w _ _).drew1
  have hB0 : Below w.heap.size w (w.alloc (.cells #[.int .i64 dc, .slice A n c, .bool intra] 135)).drew := ((Below.refl w.heap.size w).alloc (Nat.le_refl _) _).drew
  have y0 := hb0.cell 0; have y1 := hb0.cell 1; have y2 := hb0.cell 2
  have HL := Lib.hid hb0; have HB := Lib.hid hB0
  have HS0 := Lib.hid (HS.out.below hB0)
  clear hb0 hB0
  refine wp_region_treeN (fun w' => w'.cell? ⟨w.heap.size, 0, none⟩ = some (.int .i64 dc) ∧ w'.cell? ⟨w.heap.size, 1, none⟩ = some (.slice A n c) ∧ w'.cell? ⟨w.heap.size, 2, none⟩ = some (.bool intra)) 10 (.take 0 (.take 1 (.take 2 (.take 3 (.step 4 (.step 5 (.take 6 (.take 7 (.take 8 (.step 9 .done)))))))))) (by kernel_rfl) (by kernel_rfl) (by simp only [Pln.out, Array.getD_eq_getD_getElem?, List.getElem?_toArray, List.getElem?_cons_zero, List.getElem?_cons_succ, Option.getD_some]; rfl) (by simp only [List.map_cons, List.map_nil]; rfl) (⟨y0, y1, y2⟩) (fun PE hPE => ?_)
  iterate 4
    refine tree_take (v := ?_) rfl (by rfl) ?_ ?_
    rotate_left
    · intro _ hSw; (try dsimp only at hSw); obtain ⟨s0, s1, s2⟩ := hSw; go_simp; (try with_reducible rfl)
    simp only [List.setIfInBounds_toArray, List.set_cons_zero, List.set_cons_succ]
  refine tree_call (f := 139) rfl (by rfl) (by first | (go_simp; done) | (go_simp; rfl)) (C1.out _) ?_
  rintro e w2 ⟨rfl, hb2⟩
  have hL2 := HL.out.below hb2 HL.out.lt
  have HBb := Lib.hid (HB.out.trans (hb2.mono HB.out.size))
  refine ⟨_, rfl, _, fun _ h => h, ⟨hL2.cell 0, hL2.cell 1, hL2.cell 2⟩, ?_⟩
  simp only [List.setIfInBounds_toArray, List.set_cons_zero, List.set_cons_succ]
  refine tree_call (f := 138) rfl (by rfl) (by first | (go_simp; done) | (go_simp; rfl)) (C2.out _ (HS0.out.below hb2)) ?_
  rintro e w3 ⟨v, rfl, hb3, _, _⟩
  rw [hsp]
  have hL3 := hL2.below hb3 hL2.lt
  have HBc := Lib.hid (HBb.out.trans (hb3.mono HBb.out.size))
  refine ⟨_, rfl, _, fun _ h => h, ⟨hL3.cell 0, hL3.cell 1, hL3.cell 2⟩, ?_⟩
  simp only [List.setIfInBounds_toArray, List.set_cons_zero, List.set_cons_succ]
  iterate 3
    refine tree_take (v := ?_) rfl (by rfl) ?_ ?_
    rotate_left
    · intro _ hSw; (try dsimp only at hSw); go_simp; (try with_reducible rfl)
    simp only [List.setIfInBounds_toArray, List.set_cons_zero, List.set_cons_succ]
  refine tree_value (v := ?_) (w' := ?_) rfl (by rfl) ?_ ?_ ?_
  rotate_left 2
  · go_simp; (try (constructor <;> with_reducible rfl))
  · exact ⟨hL3.cell 0, hL3.cell 1, hL3.cell 2⟩
  simp only [List.setIfInBounds_toArray, List.set_cons_zero, List.set_cons_succ]
  refine hPE _ _ ?_
  clear hPE PE
  simp only [List.drop_succ_cons, List.drop_zero, List.drop_nil]
  clear hb2 hb3 hL2 hL3 y0 y1 y2
  go_wp2_with fail
  refine ⟨rfl, ?_⟩
  go_wp2_with fail
  go_ret
  exact ⟨rfl, HBc.out⟩
set_option maxRecDepth 100000 in
theorem block_Check (x : BlkM) (A : Option Addr) (n c : Nat) (intra : Bool) (w : World) (hS : Sl w A (rowC pairC x.l)) (hn : x.l.length = n) (hsz : n ≤ 1099511627776) : Calls Tryz.prog 63 #[.agg #[.int .i64 x.dc, .slice A n c], .bool intra] w fun e w' => e = .returned (.int .i64 (bchkP x intra)) ∧ Below w.heap.size w w' := by
  have C1 := Lib.hid (fun W => block_dc x.dc A n c intra W)
  have C2 := Lib.hid (fun W hW => block_pairs x.dc x.l A n c intra W hW hn hsz)
  have HS := Lib.hid hS
  rw [bchk_dc, hn]
  clear hS hn hsz
  obtain ⟨dc, l⟩ := x
  dsimp only at *
  generalize dcP dc n intra = dp at *
  generalize spreadP l (frstP intra) = sp at *
  unfold kndV at C1 C2
  have i0 : ∀ W : World, (Instr.index 136 (.agg #[.func (.func 106) #[.agg #[.int .i64 dc, .slice A n c, .bool intra]] #[], .func (.func 107) #[.agg #[.int .i64 dc, .slice A n c, .bool intra]] #[]]) (.int .i64 0)).run Tryz.prog W = .ok (.func (.func 106) #[.agg #[.int .i64 dc, .slice A n c, .bool intra]] #[]) W := fun _ => by kernel_rfl
  have i1 : ∀ W : World, (Instr.index 136 (.agg #[.func (.func 106) #[.agg #[.int .i64 dc, .slice A n c, .bool intra]] #[], .func (.func 107) #[.agg #[.int .i64 dc, .slice A n c, .bool intra]] #[]]) (.int .i64 1)).run Tryz.prog W = .ok (.func (.func 107) #[.agg #[.int .i64 dc, .slice A n c, .bool intra]] #[]) W := fun _ => by kernel_rfl
  go_enter Tryz.func63, Tryz.ntmps63
  go_wp2_with fail
  go_loopg [17] 2 (fun g i => fun wr => ∃ j : Nat, j + g = 2 ∧ i = .int .i64 (j : Int) ∧ Hid ((1 ≤ j → dp = 0) ∧ (2 ≤ j → sp = 0) ∧ Below w.heap.size w wr))
  case atStart => exact ⟨0, by omega, rfl, Lib.hid ⟨by omega, by omega, ((Below.refl _ _).alloc (Nat.le_refl _) _).alloc (by simp) _⟩⟩
  case round =>
    obtain ⟨j, hj, rfl, HJ⟩ := hrel
    have hj4 : j = 0 ∨ j = 1 ∨ j = 2 := by omega
    rcases hj4 with rfl | rfl | rfl
    · cases hd : (dp == 0) with
      | true =>
        have HD := Lib.hid (show dp = 0 by simpa using hd)
        have hd2 : (dp != 0) = false := by rw [bne, hd]; rfl
        go_wp2_with (go_at_call 106; refine (C1.out _).mono ?_; rintro e w2 ⟨rfl, hb2⟩; have HB2 := Lib.hid hb2; clear hb2)
        go_roundg 1
        case measure => omega
        case rel => exact ⟨1, by omega, rfl, Lib.hid ⟨fun _ => HD.out, by omega, HJ.out.2.2.trans (HB2.out.mono HJ.out.2.2.size)⟩⟩
      | false =>
        have hd2 : (dp != 0) = true := by rw [bne, hd]; rfl
        go_wp2_with (go_at_call 106; refine (C1.out _).mono ?_; rintro e w2 ⟨rfl, hb2⟩; have HB2 := Lib.hid hb2; clear hb2)
        go_ret
        exact ⟨rfl, HJ.out.2.2.trans (HB2.out.mono HJ.out.2.2.size)⟩
    · have hdp := HJ.out.1 (by omega)
      subst hdp
      have HS2 := Lib.hid (HS.out.below HJ.out.2.2)
      cases hd : (sp == 0) with
      | true =>
        have HD := Lib.hid (show sp = 0 by simpa using hd)
        have hd2 : (sp != 0) = false := by rw [bne, hd]; rfl
        go_wp2_with (go_at_call 107; refine (C2.out _ HS2.out).mono ?_; rintro e w2 ⟨rfl, hb2⟩; have HB2 := Lib.hid hb2; clear hb2)
        go_roundg 0
        case measure => omega
        case rel => exact ⟨2, by omega, rfl, Lib.hid ⟨fun _ => trivial, fun _ => HD.out, HJ.out.2.2.trans (HB2.out.mono HJ.out.2.2.size)⟩⟩
      | false =>
        have hd2 : (sp != 0) = true := by rw [bne, hd]; rfl
        go_wp2_with (go_at_call 107; refine (C2.out _ HS2.out).mono ?_; rintro e w2 ⟨rfl, hb2⟩; have HB2 := Lib.hid hb2; clear hb2)
        go_ret
        exact ⟨rfl, HJ.out.2.2.trans (HB2.out.mono HJ.out.2.2.size)⟩
    · have hdp := HJ.out.1 (by omega)
      have hsp := HJ.out.2.1 (by omega)
      subst hdp hsp
      go_wp2_with fail
      go_ret
      exact ⟨rfl, HJ.out.2.2⟩
end Go.Proofs.YtcojnigkgbmbmaaGreatDoor
namespace Go.Proofs.YtcojnigkgbmbmaaGreatDoor
open Go Go.RowKit
attribute [local go_sem] Oper.semAt_some
/-- a block, and where its pairs lie. -/
abbrev BkE : Type := BlkM × Option Addr × Nat
def bkC (p : BkE) : List Value := [.int .i64 p.1.dc, .slice p.2.1 p.1.l.length p.2.2]
theorem bkC_len (p : BkE) : (bkC p).length = 2 := rfl
structure BksAt (W : World) (A : Option Addr) (xs : List BkE) : Prop where
  row : Sl W A (rowC bkC xs)
  bl : ∀ p ∈ xs, Sl W p.2.1 (rowC pairC p.1.l)
  len : xs.length ≤ 64
  lens : ∀ p ∈ xs, p.1.l.length ≤ 1000
theorem BksAt.below {W W' : World} {A : Option Addr} {xs : List BkE} (h : BksAt W A xs) {B : Nat} (hb : Below B W W') (hB : W.heap.size ≤ B) : BksAt W' A xs :=
  ⟨h.row.below (hb.mono hB), fun p hp => (h.bl p hp).below (hb.mono hB), h.len, h.lens⟩
theorem sl_bk {w : World} {A : Option Addr} {xs : List BkE} (h : Sl w A (rowC bkC xs)) (i : Nat) (hi : i < xs.length) : ∃ ad, A = some ad ∧ ad.block < w.heap.size ∧ w.cell? (ad.add (i * 2)) = some (.int .i64 xs[i].1.dc) ∧ w.cell? ⟨(ad.add (i * 2)).block, (ad.add (i * 2)).off + 1, none⟩ = some (.slice xs[i].2.1 xs[i].1.l.length xs[i].2.2) := by
  have h0 := rowC_get bkC_len xs i hi 0 (by decide)
  have h1 := rowC_get bkC_len xs i hi 1 (by decide)
  rw [Nat.add_zero] at h0
  obtain ⟨ad, rfl, hl, c0⟩ := h _ _ (h0.trans rfl)
  obtain ⟨ad', e, _, c1⟩ := h _ _ (h1.trans rfl)
  cases e
  rw [← addr_add_add] at c1
  exact ⟨ad, rfl, hl, c0, c1⟩
def badB (intra : Bool) (p : BkE) : Bool := bchkP p.1 intra != 0
set_option maxRecDepth 100000 in
theorem check_block (g : Nat) (x : BlkM) (A : Option Addr) (n c : Nat) (b0 b1 b2 b3 b4 : Bool) (w : World) (hg : Blk w g 59 #[.bool b0, .bool b1, .bool b2, .bool b3, .bool b4]) (hS : Sl w A (rowC pairC x.l)) (hn : x.l.length = n) (hsz : n ≤ 1000) :
    Calls Tryz.prog 62 #[.agg #[.int .i64 x.dc, .slice A n c], .pointer (some ⟨g, 0, none⟩)] w fun e w' => e = .returned (.bool (bchkP x b0 != 0)) ∧ Below w.heap.size w w' := by
  have hB0 : Below w.heap.size w (w.alloc (.cells #[.int .i64 x.dc, .slice A n c] 81)) := (Below.refl _ _).alloc (Nat.le_refl _) _
  have C := Lib.hid (fun W hW => block_Check x A n c b0 W hW hn (by omega))
  have HS := Lib.hid (hS.below hB0)
  have HB0 := Lib.hid hB0
  have hz := hg.alloc (.cells #[.int .i64 x.dc, .slice A n c] 81)
  have z0 := hz.cell 0
  obtain ⟨r, hr⟩ : ∃ r, bchkP x b0 = r := ⟨_, rfl⟩
  rw [hr] at C ⊢
  clear hg hS hn hB0 hr hz
  go_enter Tryz.func62, Tryz.ntmps62
  go_wp2_with (go_at_call 63; refine (C.out _ HS.out).mono ?_; rintro e w2 ⟨rfl, hb2⟩; have HB2 := Lib.hid hb2; clear hb2)
  go_ret
  exact ⟨rfl, HB0.out.trans (HB2.out.mono HB0.out.size)⟩
set_option maxRecDepth 100000 in
theorem index_block (A : Option Addr) (c : Nat) (xs : List BkE) (g : Nat) (b0 b1 b2 b3 b4 : Bool) (w : World) (hA : BksAt w A xs) (hg : Blk w g 59 #[.bool b0, .bool b1, .bool b2, .bool b3, .bool b4]) :
    Calls Tryz.prog 105 #[.slice A xs.length c, .func (.func 62) #[] #[.pointer (some ⟨g, 0, none⟩)]] w fun e w' => e = .returned (.int .i64 (if xs.any (badB b0) then ((xs.findIdx (badB b0) : Nat) : Int) else -1)) ∧ Below w.heap.size w w' := by
  have HA := Lib.hid hA; have HG := Lib.hid hg
  have hl64 := hA.len
  clear hA hg
  obtain ⟨n, hn⟩ : ∃ n, xs.length = n := ⟨_, rfl⟩
  rw [hn] at hl64 ⊢
  have HN := Lib.hid hn
  obtain ⟨RES, hres⟩ : ∃ RES : Int, (if xs.any (badB b0) then ((xs.findIdx (badB b0) : Nat) : Int) else -1) = RES := ⟨_, rfl⟩
  rw [hres]
  have HRES := Lib.hid hres
  clear hn hres
  go_enter Tryz.func105, Tryz.ntmps105
  go_wp2_with fail
  go_loopg [8] n (fun g i => fun wr => ∃ (j : Nat), j + g = n ∧ i = .int .i64 (j : Int) ∧ Hid (∀ k (h : k < xs.length), k < j → badB b0 xs[k] = false) ∧ Hid (Below w.heap.size w wr))
  case atStart => exact ⟨0, by omega, rfl, Lib.hid (fun k h h2 => by omega), Lib.hid (Below.refl _ _)⟩
  case round =>
    obtain ⟨j, hj, rfl, HJ, HB⟩ := hrel
    cases gk with
    | zero =>
      have hlt : ¬ ((j : Int) < (n : Int)) := by omega
      have hR1 : RES = -1 := by
        rw [← HRES.out, if_neg]
        rw [List.any_eq_true]
        rintro ⟨p, hp, hb⟩
        obtain ⟨k, hk, rfl⟩ := List.getElem_of_mem hp
        rw [HJ.out k hk (by have := HN.out; omega)] at hb
        cases hb
      subst hR1
      go_wp2_with fail
      go_ret
      exact ⟨rfl, HB.out⟩
    | succ g =>
      have hlt : ((j : Int) < (n : Int)) := by omega
      have hjl : j < xs.length := by rw [HN.out]; omega
      obtain ⟨ad, rfl, _, c0, c1⟩ := sl_bk (HA.out.row.below HB.out) j hjl
      have hC := check_block _ xs[j].1 xs[j].2.1 xs[j].1.l.length xs[j].2.2 b0 b1 b2 b3 b4 wr (HG.out.below HB.out HG.out.lt) ((HA.out.bl _ (List.getElem_mem hjl)).below HB.out) rfl (HA.out.lens _ (List.getElem_mem hjl))
      have hbad : badB b0 xs[j] = (bchkP xs[j].1 b0 != 0) := rfl
      have hw1 : IntKind.i64.wrap ((j : Int) + 1) = (j : Int) + 1 := by rw [IntKind.wrap_i64]; omega
      cases hb : (bchkP xs[j].1 b0 != 0) with
      | true =>
        rw [hb] at hC hbad
        have hR1 : RES = (j : Int) := by
          rw [← HRES.out, if_pos]
          · congr 1
            have h1 : xs.findIdx (badB b0) = j := by
              rw [List.findIdx_eq hjl]
              exact ⟨hbad, fun k hk => HJ.out k (by omega) hk⟩
            rw [h1]
          · rw [List.any_eq_true]; exact ⟨xs[j], List.getElem_mem hjl, hbad⟩
        subst hR1
        have HC := Lib.hid hC
        clear hC hbad hb hj
        go_wp2_with (go_at_call 62; refine HC.out.mono ?_; rintro e w2 ⟨rfl, hb2⟩; have HB2 := Lib.hid hb2; clear hb2)
        go_ret
        exact ⟨rfl, HB.out.trans (HB2.out.mono HB.out.size)⟩
      | false =>
        rw [hb] at hC hbad
        have HC := Lib.hid hC; have HBAD := Lib.hid hbad; have HJ2 := Lib.hid hj
        clear hC hbad hb hj
        go_wp2_with (go_at_call 62; refine HC.out.mono ?_; rintro e w2 ⟨rfl, hb2⟩; have HB2 := Lib.hid hb2; clear hb2)
        go_roundg g
        case measure => omega
        case rel =>
          refine ⟨j + 1, by have := HJ2.out; omega, rfl, Lib.hid fun k h hk => ?_, Lib.hid (HB.out.trans (HB2.out.mono HB.out.size))⟩
          rcases Nat.lt_or_ge k j with h1 | h1
          · exact HJ.out k h h1
          · obtain rfl : k = j := by omega
            exact HBAD.out
theorem contains_block (A : Option Addr) (c : Nat) (xs : List BkE) (g : Nat) (b0 b1 b2 b3 b4 : Bool) (w : World) (hA : BksAt w A xs) (hg : Blk w g 59 #[.bool b0, .bool b1, .bool b2, .bool b3, .bool b4]) :
    Calls Tryz.prog 61 #[.slice A xs.length c, .func (.func 62) #[] #[.pointer (some ⟨g, 0, none⟩)]] w fun e w' => e = .returned (.bool (xs.any (badB b0))) ∧ Below w.heap.size w w' := by
  have C := Lib.hid (index_block A c xs g b0 b1 b2 b3 b4 w hA hg)
  clear hA hg
  generalize xs.length = n at C ⊢
  generalize xs.findIdx (badB b0) = k at C
  cases hb : xs.any (badB b0) with
  | true =>
    rw [hb, if_pos rfl] at C
    have hk : (0 : Int) ≤ (k : Int) := by omega
    clear hb
    go_enter Tryz.func61, Tryz.ntmps61
    go_wp2_with (go_at_call 105; refine C.out.mono ?_; rintro e w2 ⟨rfl, hb2⟩; have HB2 := Lib.hid hb2; clear hb2)
    go_ret
    exact ⟨rfl, HB2.out⟩
  | false =>
    rw [hb, if_neg (by decide)] at C
    clear hb
    go_enter Tryz.func61, Tryz.ntmps61
    go_wp2_with (go_at_call 105; refine C.out.mono ?_; rintro e w2 ⟨rfl, hb2⟩; have HB2 := Lib.hid hb2; clear hb2)
    go_ret
    exact ⟨rfl, HB2.out⟩
end Go.Proofs.YtcojnigkgbmbmaaGreatDoor
namespace Go.Proofs.YtcojnigkgbmbmaaGreatDoor
open Go Go.RowKit
attribute [local go_sem] Oper.semAt_some
theorem take_next {α : Type} {l m : List α} {j : Nat} (hl : j < l.length) (hm : j < m.length) (h : l.take j = m.take j) (e : l[j] = m[j]) : l.take (j + 1) = m.take (j + 1) := by
  rw [List.take_add_one, List.take_add_one, h, List.getElem?_eq_getElem hl, List.getElem?_eq_getElem hm, e]
theorem take_not {α : Type} {l m : List α} {j : Nat} (hl : j < l.length) (hm : j < m.length) (e : l[j] ≠ m[j]) : l ≠ m := by
  rintro rfl
  exact e rfl
set_option maxRecDepth 100000 in
set_option maxHeartbeats 4000000 in
theorem kit_SamePairs (l m : List (Int × Int)) (A B : Option Addr) (c d : Nat) (w : World) (hA : Sl w A (rowC pairC l)) (hB : Sl w B (rowC pairC m)) (hl : l.length ≤ 1000000) :
    Calls Tryz.prog 87 #[.slice A l.length c, .slice B m.length d] w fun e w' => e = .returned (.bool (l == m)) ∧ Below w.heap.size w w' := by
  have HA := Lib.hid hA; have HB := Lib.hid hB; have HL := Lib.hid hl
  clear hA hB hl
  obtain ⟨RES, hres⟩ : ∃ RES, (l == m) = RES := ⟨_, rfl⟩
  rw [hres]
  obtain ⟨n, hn⟩ : ∃ n, l.length = n := ⟨_, rfl⟩
  obtain ⟨k, hk⟩ : ∃ k, m.length = k := ⟨_, rfl⟩
  rw [hn, hk]
  have HRES := Lib.hid hres; have HN := Lib.hid hn; have HK := Lib.hid hk
  clear hres hn hk
  rcases Decidable.em (n ≠ k) with hnk | hnk
  · have hne : (n : Int) ≠ (k : Int) := by omega
    have hR : RES = false := by
      rw [← HRES.out, beq_eq_false_iff_ne]
      rintro rfl
      have := HN.out; have := HK.out; omega
    subst hR
    clear hnk
    go_enter Tryz.func87, Tryz.ntmps87
    go_wp2
    go_ret
    exact ⟨rfl, Below.refl _ _⟩
  obtain rfl : n = k := by omega
  clear hnk
  go_enter Tryz.func87, Tryz.ntmps87
  go_wp2_with fail
  go_loopg [5] n (fun g i => fun wr => ∃ (j : Nat), j + g = n ∧ i = .int .i64 (j : Int) ∧ Hid (l.take j = m.take j) ∧ Hid (Below w.heap.size w wr))
  case atStart => exact ⟨0, by omega, rfl, Lib.hid (by simp), Lib.hid (Below.refl _ _)⟩
  case round =>
    obtain ⟨j, hj, rfl, HJ, HI⟩ := hrel
    cases gk with
    | zero =>
      have hlt : ¬ ((j : Int) < (n : Int)) := by omega
      have hR1 : RES = true := by
        rw [← HRES.out, beq_iff_eq]
        have h := HJ.out
        rwa [List.take_of_length_le (by have := HN.out; omega), List.take_of_length_le (by have := HK.out; omega)] at h
      subst hR1
      clear hj
      go_wp2_with fail
      go_ret
      exact ⟨rfl, HI.out⟩
    | succ g =>
      have hlt : ((j : Int) < (n : Int)) := by omega
      have hlt0 : ¬ ((j : Int) < 0) := by omega
      have hjl : j < l.length := by rw [HN.out]; omega
      have hjm : j < m.length := by rw [HK.out]; omega
      obtain ⟨a, rfl, ha1, ha2, ha3⟩ := sl_pair (HA.out.below HI.out) j hjl
      obtain ⟨b, rfl, hc1, hc2, hc3⟩ := sl_pair (HB.out.below HI.out) j hjm
      obtain ⟨⟨p0, p1⟩, hp⟩ : ∃ p, l[j] = p := ⟨_, rfl⟩
      obtain ⟨⟨q0, q1⟩, hq⟩ : ∃ q, m[j] = q := ⟨_, rfl⟩
      have HC : Hid (∀ W, Sl W (some a) (rowC pairC l) ∧ Sl W (some b) (rowC pairC m) → (W.cell? (a.add (j * 2)) = some (.int .i64 p0) ∧ W.cell? ⟨(a.add (j * 2)).block, (a.add (j * 2)).off + 1, none⟩ = some (.int .i64 p1)) ∧ (W.cell? (b.add (j * 2)) = some (.int .i64 q0) ∧ W.cell? ⟨(b.add (j * 2)).block, (b.add (j * 2)).off + 1, none⟩ = some (.int .i64 q1))) := Lib.hid fun W hW => by
        obtain ⟨a', e1, _, c1, c2⟩ := sl_pair hW.1 j hjl
        obtain ⟨b', e2, _, d1, d2⟩ := sl_pair hW.2 j hjm
        cases e1; cases e2
        rw [hp] at c1 c2
        rw [hq] at d1 d2
        exact ⟨⟨c1, c2⟩, d1, d2⟩
      have hw1 : IntKind.i64.wrap ((j : Int) + 1) = (j : Int) + 1 := by have := HL.out; have := HN.out; rw [IntKind.wrap_i64]; omega
      have HJJ := Lib.hid hj
      have hI0 : Below w.heap.size w wr.drew := HI.out.drew
      have HI2 := Lib.hid hI0
      have HST : Hid (Sl wr.drew (some a) (rowC pairC l) ∧ Sl wr.drew (some b) (rowC pairC m)) := Lib.hid ⟨HA.out.below hI0, HB.out.below hI0⟩
      have HEQ : Hid ((p0 = q0 ∧ p1 = q1) → l.take (j + 1) = m.take (j + 1)) := Lib.hid fun h => take_next hjl hjm HJ.out (by rw [hp, hq, h.1, h.2])
      have HNE : Hid (¬ (p0 = q0 ∧ p1 = q1) → RES = false) := Lib.hid fun h => by
        rw [← HRES.out, beq_eq_false_iff_ne]
        exact take_not hjl hjm (by rw [hp, hq]; intro e; exact h ⟨(Prod.mk.inj e).1, (Prod.mk.inj e).2⟩)
      clear ha1 ha2 ha3 hc1 hc2 hc3 hj hp hq hI0 HRES HJ; clear hjl hjm; clear HA HB HN HK
      obtain ⟨b0, hb0⟩ : ∃ b, (p0 == q0) = b := ⟨_, rfl⟩
      obtain ⟨b1, hb1⟩ : ∃ b, (p1 == q1) = b := ⟨_, rfl⟩
      have HB0 := Lib.hid hb0; have HB1 := Lib.hid hb1
      cases b0 with
      | false =>
        have hr : RES = false := HNE.out (fun h => by have := HB0.out; rw [h.1, beq_self_eq_true] at this; cases this)
        subst hr
        go_wp2_with fail
        refine wp_region_treeN (fun W => Sl W (some a) (rowC pairC l) ∧ Sl W (some b) (rowC pairC m)) 9 (.take 0 (.take 1 (.take 2 (.take 3 (.take 4 (.take 5 (.take 6 (.take 7 (.take 8 .done))))))))) (by kernel_rfl) (by kernel_rfl) (by simp only [Pln.out, Array.getD_eq_getD_getElem?, List.getElem?_toArray, List.getElem?_cons_zero, List.getElem?_cons_succ, Option.getD_some]; rfl) (by simp only [List.map_cons, List.map_nil]; rfl) (HST.out) (fun PE hPE => ?_)
        iterate 9
          refine tree_take (v := ?_) rfl (by rfl) ?_ ?_
          rotate_left
          · intro _ hSw; (try dsimp only at hSw); obtain ⟨⟨z0, z1⟩, z2, z3⟩ := HC.out _ hSw; go_simp; (try with_reducible rfl)
          simp only [List.setIfInBounds_toArray, List.set_cons_zero, List.set_cons_succ]
        refine hPE _ _ ?_
        clear hPE PE
        simp only [List.drop_succ_cons, List.drop_zero, List.drop_nil]
        go_wp2_with fail
        refine ⟨rfl, ?_⟩
        go_wp2_with fail
        go_ret
        exact ⟨rfl, HI2.out⟩
      | true =>
        cases b1 with
        | false =>
          have hr : RES = false := HNE.out (fun h => by have := HB1.out; rw [h.2, beq_self_eq_true] at this; cases this)
          subst hr
          go_wp2_with fail
          refine wp_region_treeN (fun W => Sl W (some a) (rowC pairC l) ∧ Sl W (some b) (rowC pairC m)) 9 (.take 0 (.take 1 (.take 2 (.take 3 (.take 4 (.take 5 (.take 6 (.take 7 (.take 8 .done))))))))) (by kernel_rfl) (by kernel_rfl) (by simp only [Pln.out, Array.getD_eq_getD_getElem?, List.getElem?_toArray, List.getElem?_cons_zero, List.getElem?_cons_succ, Option.getD_some]; rfl) (by simp only [List.map_cons, List.map_nil]; rfl) (HST.out) (fun PE hPE => ?_)
          iterate 9
            refine tree_take (v := ?_) rfl (by rfl) ?_ ?_
            rotate_left
            · intro _ hSw; (try dsimp only at hSw); obtain ⟨⟨z0, z1⟩, z2, z3⟩ := HC.out _ hSw; go_simp; (try with_reducible rfl)
            simp only [List.setIfInBounds_toArray, List.set_cons_zero, List.set_cons_succ]
          refine hPE _ _ ?_
          clear hPE PE
          simp only [List.drop_succ_cons, List.drop_zero, List.drop_nil]
          go_wp2_with fail
          refine ⟨rfl, ?_⟩
          go_wp2_with fail
          go_ret
          exact ⟨rfl, HI2.out⟩
        | true =>
          have hq : p0 = q0 := beq_iff_eq.1 hb0
          have hq1 : p1 = q1 := beq_iff_eq.1 hb1
          have HE := Lib.hid (HEQ.out ⟨hq, hq1⟩)
          subst hq hq1
          clear HEQ HNE
          go_wp2_with fail
          refine wp_region_treeN (fun W => Sl W (some a) (rowC pairC l) ∧ Sl W (some b) (rowC pairC m)) 9 (.take 0 (.take 1 (.take 2 (.take 3 (.take 4 (.take 5 (.take 6 (.take 7 (.take 8 .done))))))))) (by kernel_rfl) (by kernel_rfl) (by simp only [Pln.out, Array.getD_eq_getD_getElem?, List.getElem?_toArray, List.getElem?_cons_zero, List.getElem?_cons_succ, Option.getD_some]; rfl) (by simp only [List.map_cons, List.map_nil]; rfl) (HST.out) (fun PE hPE => ?_)
          iterate 9
            refine tree_take (v := ?_) rfl (by rfl) ?_ ?_
            rotate_left
            · intro _ hSw; (try dsimp only at hSw); obtain ⟨⟨z0, z1⟩, z2, z3⟩ := HC.out _ hSw; go_simp; (try with_reducible rfl)
            simp only [List.setIfInBounds_toArray, List.set_cons_zero, List.set_cons_succ]
          refine hPE _ _ ?_
          clear hPE PE
          simp only [List.drop_succ_cons, List.drop_zero, List.drop_nil]
          go_wp2_with fail
          refine ⟨rfl, ?_⟩
          go_wp2_with fail
          go_roundg g
          case measure => omega
          case rel => exact ⟨j + 1, by have := HJJ.out; omega, rfl, HE, HI2⟩
def sameK (x y : BlkM) : Bool := x.dc == y.dc && x.l == y.l
theorem sameK_iff {x y : BlkM} : sameK x y = true ↔ x = y := by
  obtain ⟨a, b⟩ := x; obtain ⟨c, d⟩ := y
  unfold sameK
  simp
theorem kit_SameBlock (x y : BlkM) (A B : Option Addr) (c d : Nat) (w : World) (hA : Sl w A (rowC pairC x.l)) (hB : Sl w B (rowC pairC y.l)) (hl : x.l.length ≤ 1000000) :
    Calls Tryz.prog 45 #[.agg #[.int .i64 x.dc, .slice A x.l.length c], .agg #[.int .i64 y.dc, .slice B y.l.length d]] w fun e w' => e = .returned (.bool (sameK x y)) ∧ Below w.heap.size w w' := by
  obtain ⟨a, l⟩ := x; obtain ⟨b, m⟩ := y
  unfold sameK
  dsimp only at hA hB hl ⊢
  have hb0 : Below w.heap.size w (w.alloc (.cells #[.int .i64 a, .slice A l.length c] 81)) := (Below.refl _ w).alloc (Nat.le_refl _) _
  have HB1 := Lib.hid (hb0.alloc hb0.size (.cells #[.int .i64 b, .slice B m.length d] 81))
  have C := Lib.hid (kit_SamePairs l m A B c d _ (hA.below HB1.out) (hB.below HB1.out) hl)
  have hc1 := (Blk.new w 81 #[.int .i64 a, .slice A l.length c]).alloc (.cells #[.int .i64 b, .slice B m.length d] 81)
  have hc2 := Blk.new (w.alloc (.cells #[.int .i64 a, .slice A l.length c] 81)) 81 #[.int .i64 b, .slice B m.length d]
  rw [World.size_alloc] at hc2
  have z0 := hc1.cell 0; have z1 := hc1.cell 1; have z2 := hc2.cell 0; have z3 := hc2.cell 1
  (try dsimp only at z0 z1 z2 z3)
  clear hA hB hl hb0 hc1 hc2
  generalize (l == m) = lm at C ⊢
  generalize l.length = n at *
  generalize m.length = k at *
  cases hab : (a == b) with
  | false =>
    go_enter Tryz.func45, Tryz.ntmps45
    go_wp2_with fail
    go_ret
    exact ⟨rfl, HB1.out⟩
  | true =>
    go_enter Tryz.func45, Tryz.ntmps45
    go_wp2_with (go_at_call 87; refine C.out.mono ?_; rintro e w2 ⟨rfl, hb2⟩; have HB2 := Lib.hid hb2; clear hb2)
    go_ret
    exact ⟨by simp, HB1.out.trans (HB2.out.mono HB1.out.size)⟩
end Go.Proofs.YtcojnigkgbmbmaaGreatDoor
namespace Go.Proofs.YtcojnigkgbmbmaaGreatDoor
open Go Go.RowKit
attribute [local go_sem] Oper.semAt_some
def sameBl : List BlkM → List BlkM → Bool
  | [], [] => true
  | x :: l, y :: m => sameK x y && sameBl l m
  | _, _ => false
theorem sameBl_iff : ∀ {l m : List BlkM}, sameBl l m = true ↔ l = m
  | [], [] => by simp [sameBl]
  | [], _ :: _ => by simp [sameBl]
  | _ :: _, [] => by simp [sameBl]
  | x :: l, y :: m => by
    unfold sameBl
    rw [Bool.and_eq_true, sameK_iff, sameBl_iff, List.cons.injEq]
def sameM (a b : MacM) : Bool := a.ad == b.ad && a.kd == b.kd && a.qu == b.qu && a.x == b.x && a.y == b.y && a.pa == b.pa && sameBl a.bl b.bl
theorem sameM_iff {a b : MacM} : sameM a b = true ↔ a = b := by
  obtain ⟨a1, a2, a3, a4, a5, a6, a7⟩ := a; obtain ⟨b1, b2, b3, b4, b5, b6, b7⟩ := b
  unfold sameM
  simp only [Bool.and_eq_true, beq_iff_eq, sameBl_iff, MacM.mk.injEq]
  constructor
  · rintro ⟨⟨⟨⟨⟨⟨h1, h2⟩, h3⟩, h4⟩, h5⟩, h6⟩, h7⟩; exact ⟨h1, h2, h3, h4, h5, h6, h7⟩
  · rintro ⟨h1, h2, h3, h4, h5, h6, h7⟩; exact ⟨⟨⟨⟨⟨⟨h1, h2⟩, h3⟩, h4⟩, h5⟩, h6⟩, h7⟩
theorem sameM_not {a b : MacM} (h : a ≠ b) : sameM a b = false := by
  rw [← Bool.not_eq_true]
  exact fun h2 => h (sameM_iff.1 h2)
set_option maxRecDepth 100000 in
set_option maxHeartbeats 8000000 in
theorem kit_SameMacro (m1 m2 : MacM) (xs ys : List BkE) (A B : Option Addr) (c d : Nat) (w : World) (h1 : m1.bl = xs.map (·.1)) (h2 : m2.bl = ys.map (·.1)) (hA : BksAt w A xs) (hB : BksAt w B ys) :
    Calls Tryz.prog 13 #[macV m1 A xs.length c, macV m2 B ys.length d] w fun e w' => e = .returned (.bool (sameM m1 m2)) ∧ Below w.heap.size w w' := by
  have HNE := Lib.hid (@sameM_not m1 m2)
  have HEQ := Lib.hid (@sameM_iff m1 m2)
  have HA := Lib.hid hA; have HB := Lib.hid hB
  have hln : m1.bl = m2.bl → xs.length = ys.length := fun e => by
    have h := congrArg List.length e
    rw [h1, h2, List.length_map, List.length_map] at h
    exact h
  have hbl : m1.bl = m2.bl ↔ xs.map (·.1) = ys.map (·.1) := by rw [h1, h2]
  obtain ⟨a1, a2, a3, a4, a5, a6, a7⟩ := m1; obtain ⟨b1, b2, b3, b4, b5, b6, b7⟩ := m2
  obtain ⟨RES, hres⟩ : ∃ RES, sameM ⟨a1, a2, a3, a4, a5, a6, a7⟩ ⟨b1, b2, b3, b4, b5, b6, b7⟩ = RES := ⟨_, rfl⟩
  rw [hres] at HNE HEQ ⊢
  unfold macV
  dsimp only at hln hbl ⊢
  have HLN := Lib.hid hln; have HBLL := Lib.hid hbl
  clear hres hA hB h1 h2 hln hbl
  obtain ⟨n, hn⟩ : ∃ n, xs.length = n := ⟨_, rfl⟩
  obtain ⟨k, hk⟩ : ∃ k, ys.length = k := ⟨_, rfl⟩
  have hn64 : n ≤ 64 := by rw [← hn]; exact HA.out.len
  rw [hn, hk] at HLN ⊢
  have HN := Lib.hid hn; have HK := Lib.hid hk
  clear hn hk
  have hb0 : Below w.heap.size w (w.alloc (.cells #[.int .i64 a1, .int .i64 a2, .int .i64 a3, .int .i64 a4, .int .i64 a5, .int .i64 a6, .slice A n c] 29)) := (Below.refl _ w).alloc (Nat.le_refl _) _
  have hb1 := hb0.alloc hb0.size (.cells #[.int .i64 b1, .int .i64 b2, .int .i64 b3, .int .i64 b4, .int .i64 b5, .int .i64 b6, .slice B k d] 29)
  have hc1 := (Blk.new w 29 #[.int .i64 a1, .int .i64 a2, .int .i64 a3, .int .i64 a4, .int .i64 a5, .int .i64 a6, .slice A n c]).alloc (.cells #[.int .i64 b1, .int .i64 b2, .int .i64 b3, .int .i64 b4, .int .i64 b5, .int .i64 b6, .slice B k d] 29)
  have hc2 : Blk ((w.alloc (.cells #[.int .i64 a1, .int .i64 a2, .int .i64 a3, .int .i64 a4, .int .i64 a5, .int .i64 a6, .slice A n c] 29)).alloc (.cells #[.int .i64 b1, .int .i64 b2, .int .i64 b3, .int .i64 b4, .int .i64 b5, .int .i64 b6, .slice B k d] 29)) (w.heap.size + 1) 29 #[.int .i64 b1, .int .i64 b2, .int .i64 b3, .int .i64 b4, .int .i64 b5, .int .i64 b6, .slice B k d] := blkAt (Blk.new _ _ _) (by simp)
  have HB1 := Lib.hid hb1; have HC1 := Lib.hid hc1; have HC2 := Lib.hid hc2
  have x0 := hc1.cell 0; have x1 := hc1.cell 1; have x2 := hc1.cell 2; have x3 := hc1.cell 3; have x4 := hc1.cell 4; have x5 := hc1.cell 5; have x6 := hc1.cell 6
  have y0 := hc2.cell 0; have y1 := hc2.cell 1; have y2 := hc2.cell 2; have y3 := hc2.cell 3; have y4 := hc2.cell 4; have y5 := hc2.cell 5; have y6 := hc2.cell 6
  simp at x0 x1 x2 x3 x4 x5 x6 y0 y1 y2 y3 y4 y5 y6
  clear hb0 hb1 hc1 hc2
  cases q1 : (a1 != b1) with
  | true =>
    have hr : RES = false := HNE.out (fun h => by have h := MacM.mk.inj h; have h := h.1; rw [h] at q1; simp at q1)
    subst hr
    clear HNE HEQ
    go_enter Tryz.func13, Tryz.ntmps13
    go_wp2_with fail
    go_ret
    exact ⟨rfl, HB1.out⟩
  | false =>
  have e1 : a1 = b1 := by simpa using q1
  subst e1
  clear q1
  cases q2 : (a2 != b2) with
  | true =>
    have hr : RES = false := HNE.out (fun h => by have h := MacM.mk.inj h; have h := h.2.1; rw [h] at q2; simp at q2)
    subst hr
    clear HNE HEQ
    go_enter Tryz.func13, Tryz.ntmps13
    go_wp2_with fail
    go_ret
    exact ⟨rfl, HB1.out⟩
  | false =>
  have e2 : a2 = b2 := by simpa using q2
  subst e2
  clear q2
  cases q3 : (a3 != b3) with
  | true =>
    have hr : RES = false := HNE.out (fun h => by have h := MacM.mk.inj h; have h := h.2.2.1; rw [h] at q3; simp at q3)
    subst hr
    clear HNE HEQ
    go_enter Tryz.func13, Tryz.ntmps13
    go_wp2_with fail
    go_ret
    exact ⟨rfl, HB1.out⟩
  | false =>
  have e3 : a3 = b3 := by simpa using q3
  subst e3
  clear q3
  cases q4 : (a4 != b4) with
  | true =>
    have hr : RES = false := HNE.out (fun h => by have h := MacM.mk.inj h; have h := h.2.2.2.1; rw [h] at q4; simp at q4)
    subst hr
    clear HNE HEQ
    go_enter Tryz.func13, Tryz.ntmps13
    go_wp2_with fail
    go_ret
    exact ⟨rfl, HB1.out⟩
  | false =>
  have e4 : a4 = b4 := by simpa using q4
  subst e4
  clear q4
  cases q5 : (a5 != b5) with
  | true =>
    have hr : RES = false := HNE.out (fun h => by have h := MacM.mk.inj h; have h := h.2.2.2.2.1; rw [h] at q5; simp at q5)
    subst hr
    clear HNE HEQ
    go_enter Tryz.func13, Tryz.ntmps13
    go_wp2_with fail
    go_ret
    exact ⟨rfl, HB1.out⟩
  | false =>
  have e5 : a5 = b5 := by simpa using q5
  subst e5
  clear q5
  cases q6 : (a6 != b6) with
  | true =>
    have hr : RES = false := HNE.out (fun h => by have h := MacM.mk.inj h; have h := h.2.2.2.2.2.1; rw [h] at q6; simp at q6)
    subst hr
    clear HNE HEQ
    go_enter Tryz.func13, Tryz.ntmps13
    go_wp2_with fail
    go_ret
    exact ⟨rfl, HB1.out⟩
  | false =>
  have e6 : a6 = b6 := by simpa using q6
  subst e6
  clear q6
  cases q7 : ((n : Int) != (k : Int)) with
  | true =>
    have hr : RES = false := HNE.out (fun h => by have h := MacM.mk.inj h; have := HLN.out h.2.2.2.2.2.2; subst this; simp at q7)
    subst hr
    clear HNE HEQ
    go_enter Tryz.func13, Tryz.ntmps13
    go_wp2_with fail
    go_ret
    exact ⟨rfl, HB1.out⟩
  | false =>
  have e7 : n = k := by have h : (n : Int) = (k : Int) := by simpa using q7
                        omega
  subst e7
  clear q7
  go_enter Tryz.func13, Tryz.ntmps13
  go_wp2_with fail
  generalize hW1 : (w.alloc (.cells #[.int .i64 a1, .int .i64 a2, .int .i64 a3, .int .i64 a4, .int .i64 a5, .int .i64 a6, .slice A n c] 29)).alloc (.cells #[.int .i64 a1, .int .i64 a2, .int .i64 a3, .int .i64 a4, .int .i64 a5, .int .i64 a6, .slice B n d] 29) = W1 at HB1 HC1 HC2 x0 x1 x2 x3 x4 x5 x6 y0 y1 y2 y3 y4 y5 y6 ⊢
  obtain ⟨g1, hg1⟩ : ∃ g1, w.heap.size = g1 := ⟨_, rfl⟩
  obtain ⟨g2, hg2⟩ : ∃ g2, g1 + 1 = g2 := ⟨_, rfl⟩
  rw [hg1] at HC1 HC2 ⊢
  rw [hg2] at HC2 ⊢
  have HG1 := Lib.hid hg1
  have HA1 := Lib.hid (HA.out.below HB1.out (Nat.le_refl _)); have HBB1 := Lib.hid (HB.out.below HB1.out (Nat.le_refl _))
  rw [hg1] at HB1
  clear x0 x1 x2 x3 x4 x5 x6 y0 y1 y2 y3 y4 y5 y6 hW1 hg1 hg2 HA HB HLN
  go_loopg [5] n (fun g i => fun wr => ∃ (j : Nat), j + g = n ∧ i = .int .i64 (j : Int) ∧ Hid ((xs.take j).map (·.1) = (ys.take j).map (·.1)) ∧ Hid (Below W1.heap.size W1 wr))
  case atStart => exact ⟨0, by omega, rfl, Lib.hid (by simp), Lib.hid (Below.refl _ _)⟩
  case round =>
    obtain ⟨j, hj, rfl, HJ, HI⟩ := hrel
    have hz := (HC1.out.below HI.out HC1.out.lt).cell 6
    (try dsimp only at hz)
    cases gk with
    | zero =>
      have hlt : ¬ ((j : Int) < (n : Int)) := by omega
      have hR1 : RES = true := HEQ.out.2 (by
        have h := HJ.out
        rw [List.take_of_length_le (by have := HN.out; omega), List.take_of_length_le (by have := HK.out; omega)] at h
        rw [HBLL.out.2 h])
      subst hR1
      clear hj
      go_wp2_with fail
      go_ret
      exact ⟨rfl, (by have h := HB1.out; rw [← HG1.out] at h; exact h.trans (HI.out.mono h.size))⟩
    | succ g =>
      have hlt : ((j : Int) < (n : Int)) := by omega
      have hlt0 : ¬ ((j : Int) < 0) := by omega
      have hjl : j < xs.length := by rw [HN.out]; omega
      have hjm : j < ys.length := by rw [HK.out]; omega
      obtain ⟨a, rfl, ha1, ha2, ha3⟩ := sl_bk (HA1.out.row.below HI.out) j hjl
      obtain ⟨b, rfl, hc1, hc2, hc3⟩ := sl_bk (HBB1.out.row.below HI.out) j hjm
      obtain ⟨p, hp⟩ : ∃ p, xs[j] = p := ⟨_, rfl⟩
      obtain ⟨q, hq⟩ : ∃ q, ys[j] = q := ⟨_, rfl⟩
      have HC : Hid (∀ W, Sl W (some a) (rowC bkC xs) ∧ Sl W (some b) (rowC bkC ys) → (W.cell? (a.add (j * 2)) = some (.int .i64 p.1.dc) ∧ W.cell? ⟨(a.add (j * 2)).block, (a.add (j * 2)).off + 1, none⟩ = some (.slice p.2.1 p.1.l.length p.2.2)) ∧ (W.cell? (b.add (j * 2)) = some (.int .i64 q.1.dc) ∧ W.cell? ⟨(b.add (j * 2)).block, (b.add (j * 2)).off + 1, none⟩ = some (.slice q.2.1 q.1.l.length q.2.2))) := Lib.hid fun W hW => by
        obtain ⟨a', e1, _, c1, c2⟩ := sl_bk hW.1 j hjl
        obtain ⟨b', e2, _, d1, d2⟩ := sl_bk hW.2 j hjm
        cases e1; cases e2
        rw [hp] at c1 c2
        rw [hq] at d1 d2
        exact ⟨⟨c1, c2⟩, d1, d2⟩
      have hw1 : IntKind.i64.wrap ((j : Int) + 1) = (j : Int) + 1 := by rw [IntKind.wrap_i64]; omega
      have HJJ := Lib.hid hj
      have hI0 : Below W1.heap.size W1 wr.drew := HI.out.drew
      have HI2 := Lib.hid hI0
      have HST : Hid ((CellsAt [(g1, 29, #[.int .i64 a1, .int .i64 a2, .int .i64 a3, .int .i64 a4, .int .i64 a5, .int .i64 a6, .slice (some a) n c]), (g2, 29, #[.int .i64 a1, .int .i64 a2, .int .i64 a3, .int .i64 a4, .int .i64 a5, .int .i64 a6, .slice (some b) n d])] wr.drew) ∧ Sl wr.drew (some a) (rowC bkC xs) ∧ Sl wr.drew (some b) (rowC bkC ys)) := Lib.hid ⟨CellsAt.cons (HC1.out.below hI0 HC1.out.lt) (CellsAt.cons (HC2.out.below hI0 HC2.out.lt) (cellsAt_nil _)), HA1.out.row.below hI0, HBB1.out.row.below hI0⟩
      have HSB : Hid (Calls Tryz.prog 45 #[.agg #[.int .i64 p.1.dc, .slice p.2.1 p.1.l.length p.2.2], .agg #[.int .i64 q.1.dc, .slice q.2.1 q.1.l.length q.2.2]] wr.drew fun e w' => e = .returned (.bool (sameK p.1 q.1)) ∧ Below wr.drew.heap.size wr.drew w') := Lib.hid (kit_SameBlock p.1 q.1 p.2.1 q.2.1 p.2.2 q.2.2 wr.drew ((HA1.out.bl p (by rw [← hp]; exact List.getElem_mem hjl)).below hI0) ((HBB1.out.bl q (by rw [← hq]; exact List.getElem_mem hjm)).below hI0) (by have := HA1.out.lens p (by rw [← hp]; exact List.getElem_mem hjl); omega))
      have HEE : Hid (sameK p.1 q.1 = true → (xs.take (j + 1)).map (·.1) = (ys.take (j + 1)).map (·.1)) := Lib.hid fun h => by
        have e := sameK_iff.1 h
        rw [List.take_add_one, List.take_add_one, List.map_append, List.map_append, HJ.out, List.getElem?_eq_getElem hjl, List.getElem?_eq_getElem hjm, hp, hq]
        simp [e]
      have HNN : Hid (sameK p.1 q.1 = false → RES = false) := Lib.hid fun h => HNE.out fun e => by
        have e7 := HBLL.out.1 (by have e := MacM.mk.inj e; exact e.2.2.2.2.2.2)
        have e8 : (xs.map (·.1))[j]'(by simpa using hjl) = (ys.map (·.1))[j]'(by simpa using hjm) := by simp only [e7]
        rw [List.getElem_map, List.getElem_map, hp, hq] at e8
        rw [sameK_iff.2 e8] at h
        cases h
      clear ha1 ha2 ha3 hc1 hc2 hc3 hj hp hq hI0 HJ
      obtain ⟨bb, hbb⟩ : ∃ bb, sameK p.1 q.1 = bb := ⟨_, rfl⟩
      rw [hbb] at HSB HEE HNN
      clear hbb hjl hjm
      go_wp2_with fail
      refine wp_region_treeN (fun W => (CellsAt [(g1, 29, #[.int .i64 a1, .int .i64 a2, .int .i64 a3, .int .i64 a4, .int .i64 a5, .int .i64 a6, .slice (some a) n c]), (g2, 29, #[.int .i64 a1, .int .i64 a2, .int .i64 a3, .int .i64 a4, .int .i64 a5, .int .i64 a6, .slice (some b) n d])] W) ∧ Sl W (some a) (rowC bkC xs) ∧ Sl W (some b) (rowC bkC ys)) 12 (.take 0 (.take 1 (.take 2 (.take 3 (.take 4 (.take 5 (.take 6 (.take 7 (.take 8 (.take 9 (.step 10 (.take 11 .done)))))))))))) (by kernel_rfl) (by kernel_rfl) (by simp only [Pln.out, Array.getD_eq_getD_getElem?, List.getElem?_toArray, List.getElem?_cons_zero, List.getElem?_cons_succ, Option.getD_some]; rfl) (by simp only [List.map_cons, List.map_nil]; rfl) (HST.out) (fun PE hPE => ?_)
      iterate 10
        refine tree_take (v := ?_) rfl (by rfl) ?_ ?_
        rotate_left
        · intro _ hSw; (try dsimp only at hSw); obtain ⟨⟨z0, z1⟩, z2, z3⟩ := HC.out _ hSw.2; have z4 := hSw.1.head.cell 6; have z5 := hSw.1.tail.head.cell 6; (try dsimp only at z4 z5); go_simp; (try with_reducible rfl)
        simp only [List.setIfInBounds_toArray, List.set_cons_zero, List.set_cons_succ]
      refine tree_call (f := 45) rfl (by rfl) (by first | (go_simp; done) | (go_simp; rfl)) HSB.out ?_
      rintro e w2 ⟨rfl, hb2⟩
      have HI3 := Lib.hid (HI2.out.trans (hb2.mono HI2.out.size))
      refine ⟨_, rfl, _, fun _ h => h, ⟨HST.out.1.below hb2, HST.out.2.1.below hb2, HST.out.2.2.below hb2⟩, ?_⟩
      simp only [List.setIfInBounds_toArray, List.set_cons_zero, List.set_cons_succ]
      refine tree_take (v := ?_) rfl (by rfl) ?_ ?_
      rotate_left
      · intro _ hSw; (try dsimp only at hSw); go_simp; (try with_reducible rfl)
      simp only [List.setIfInBounds_toArray, List.set_cons_zero, List.set_cons_succ]
      refine hPE _ _ ?_
      clear hPE PE
      simp only [List.drop_succ_cons, List.drop_zero, List.drop_nil]
      clear hb2 hz
      cases bb with
      | false =>
        have hr := HNN.out rfl
        subst hr
        go_wp2_with fail
        refine ⟨rfl, ?_⟩
        go_wp2_with fail
        go_ret
        exact ⟨rfl, (by have h := HB1.out; rw [← HG1.out] at h; exact h.trans (HI3.out.mono h.size))⟩
      | true =>
        have HE := Lib.hid (HEE.out rfl)
        clear HEE HNN
        go_wp2_with fail
        refine ⟨rfl, ?_⟩
        go_wp2_with fail
        go_roundg g
        case measure => omega
        case rel => exact ⟨j + 1, by have := HJJ.out; omega, rfl, HE, HI3⟩
end Go.Proofs.YtcojnigkgbmbmaaGreatDoor
namespace Go.Proofs.YtcojnigkgbmbmaaGreatDoor
open Go Go.RowKit
attribute [local go_sem] Oper.semAt_some
end Go.Proofs.YtcojnigkgbmbmaaGreatDoor
