/- Stg, StgW, StgI, MGetL -/
import Derived.Test.YtcojnigkgbmbmaaGreatDoorR26
import Derived.Test.YtcojnigkgbmbmaaGreatDoorR08
import Derived.Test.YtcojnigkgbmbmaaGreatDoorR28
import Derived.Sort.CutIn
namespace Go.Proofs.YtcojnigkgbmbmaaGreatDoor
open Go Go.RowKit
attribute [local go_sem] Oper.semAt_some
/-- a step: its kind, and the blocks of its closure. -/
abbrev SEl : Type := Nat × Nat × Nat × Nat
def stV (g : Nat) : SEl → Value
  | (0, _) => .func (.func 72) #[.pointer (some ⟨g, 0, none⟩)] #[]
  | (1, _) => .func (.func 73) #[.pointer (some ⟨g, 0, none⟩)] #[]
  | (2, b0, b1, b2) => .func (.func 111) #[] #[.pointer (some ⟨b0, 0, none⟩), .pointer (some ⟨b1, 0, none⟩), .pointer (some ⟨b2, 0, none⟩)]
  | (3, b0, b1, b2) => .func (.func 111) #[] #[.pointer (some ⟨b0, 0, none⟩), .pointer (some ⟨b1, 0, none⟩), .pointer (some ⟨b2, 0, none⟩)]
  | (4, _) => .func (.func 75) #[.pointer (some ⟨g, 0, none⟩)] #[]
  | (_, _) => .func (.func 76) #[.pointer (some ⟨g, 0, none⟩)] #[]
def tgs (pre : List SEl) : List Nat := pre.map (·.1)
theorem tgs_snoc (pre : List SEl) (x : SEl) : tgs (pre ++ [x]) = tgs pre ++ [x.1] := by simp [tgs]
/-- the reader behind the steps ts, ahead of a step u; and cells that stay. -/
structure RdI (w0 : World) (g : Nat) (A : Option Addr) (n c : Nat) (l : List UInt8) (s0 : RdS) (L : List CellF) (ts : List Nat) (u : Nat) (W : World) : Prop where
  ex : ∃ s bl v xs, runS l ts s0 [] = ((s, bl), 0) ∧ RdW w0 g A n c { ahdS s u with v := v } xs W ∧ xs.map (·.1) = bl
  cl : CellsAt L W
/-- what stays of the reader, whatever the consumer does. -/
structure StS (g : Nat) (A : Option Addr) (n c : Nat) (pt : Bool × Bool × Bool × Bool × Bool) (x y : Int) (L : List CellF) (W : World) : Prop where
  cl : CellsAt L W
  ex : ∃ s : RdS, Blk W g 61 (rdC A n c s) ∧ s.pt = pt ∧ s.x = x ∧ s.y = y
/-- the blocks of a part's closure. -/
def PtB (g : Nat) (x0 y0 : Int) : SEl → World → Prop
  | (2, b0, b1, b2), W => Blk W b0 57 #[.pointer (some ⟨g, 0, none⟩)] ∧ Blk W b1 3 #[.int .i64 x0] ∧ Blk W b2 102 #[.pointer (some ⟨g, 10, none⟩)]
  | (3, b0, b1, b2), W => Blk W b0 57 #[.pointer (some ⟨g, 0, none⟩)] ∧ Blk W b1 3 #[.int .i64 y0] ∧ Blk W b2 102 #[.pointer (some ⟨g, 11, none⟩)]
  | _, _ => True
section
variable {w0 W W' : World} {g : Nat} {A : Option Addr} {n c : Nat} {l : List UInt8} {s0 : RdS} {L : List CellF} {ts : List Nat} {u : Nat} {pt : Bool × Bool × Bool × Bool × Bool} {x y : Int}
theorem RdI.below (h : RdI w0 g A n c l s0 L ts u W) (hb : Below W.heap.size W W') : RdI w0 g A n c l s0 L ts u W' := by
  obtain ⟨⟨s, bl, v, xs, h1, h2, h3⟩, h4⟩ := h
  exact ⟨⟨s, bl, v, xs, h1, h2.mono hb, h3⟩, h4.below hb⟩
theorem StS.below (h : StS g A n c pt x y L W) (hb : Below W.heap.size W W') : StS g A n c pt x y L W' := by
  obtain ⟨h1, s, h2, h3⟩ := h
  exact ⟨h1.below hb, s, h2.below hb h2.lt, h3⟩
theorem StS.c4 (h : StS g A n c pt x y L W) : W.cell? ⟨g, 4, none⟩ = some (.bool pt.2.2.1) := by
  obtain ⟨_, s, h2, rfl, _⟩ := h
  exact h2.cell 4
theorem StS.c14 (h : StS g A n c pt x y L W) : W.cell? ⟨g, 14, none⟩ = some (.int .i64 x) := by
  obtain ⟨_, s, h2, _, rfl, _⟩ := h
  exact h2.cell 14
theorem StS.c15 (h : StS g A n c pt x y L W) : W.cell? ⟨g, 15, none⟩ = some (.int .i64 y) := by
  obtain ⟨_, s, h2, _, _, rfl⟩ := h
  exact h2.cell 15
/-- behind the first step. -/
theorem RdI.st (h : RdI w0 g A n c l s0 L (0 :: ts) u W) (hn : 0 ∉ ts) : StS g A n c (stpS l s0 0).1.1.pt s0.x s0.y L W := by
  obtain ⟨⟨s, bl, v, xs, e, hr, _⟩, hc⟩ := h
  have b := runS_xy l _ e
  refine ⟨hc, _, hr.cell, ?_, ?_, ?_⟩
  · exact (ahd_keep s u).2.2.2.1.trans (runS_pt0 l e hn)
  · exact (ahd_keep s u).2.1.trans b.1
  · exact (ahd_keep s u).2.2.1.trans b.2
theorem RdI.blk (h : RdI w0 g A n c l s0 L (0 :: ts) u W) (hn : 0 ∉ ts) : ∃ s, Blk W g 61 (rdC A n c s) ∧ s.pt = (stpS l s0 0).1.1.pt := by
  obtain ⟨_, s, h2, h3, _⟩ := h.st hn
  exact ⟨s, h2, h3⟩
/-- steps that are not ahead of a pattern. -/
theorem RdI.low (h : RdI w0 g A n c l s0 L ts u W) (hu : u < 4) {u' : Nat} (hu' : u' < 4) : RdI w0 g A n c l s0 L ts u' W := by
  obtain ⟨⟨s, bl, v, xs, e, hr, h3⟩, hc⟩ := h
  refine ⟨⟨s, bl, v, xs, e, ?_, h3⟩, hc⟩
  rw [ahd_low s hu] at hr
  rw [ahd_low s hu']
  exact hr
theorem RdI.four (h : RdI w0 g A n c l s0 L ts 5 W) : RdI w0 g A n c l s0 L ts 4 W := by
  obtain ⟨⟨s, bl, v, xs, e, hr, h3⟩, hc⟩ := h
  refine ⟨⟨s, bl, v, xs, e, ?_, h3⟩, hc⟩
  rw [ahd_45 s]
  exact hr
/-- no intra one: nothing is set. -/
theorem RdI.five (h : RdI w0 g A n c l s0 L (0 :: ts) 0 W) (hn : 0 ∉ ts) (hI : (stpS l s0 0).1.1.pt.1 = false) : RdI w0 g A n c l s0 L (0 :: ts) 5 W := by
  obtain ⟨⟨s, bl, v, xs, e, hr, h3⟩, hc⟩ := h
  refine ⟨⟨s, bl, v, xs, e, ?_, h3⟩, hc⟩
  have := runS_pt0 l e hn
  have e5 : ahdS s 5 = s := by unfold ahdS; rw [this, hI, if_neg (by simp)]
  rw [ahd_low s (by decide)] at hr
  rw [e5]
  exact hr
/-- an intra one: its pattern is set. -/
theorem RdI.set (h : RdI w0 g A n c l s0 L (0 :: ts) 0 W) (hn : 0 ∉ ts) (hI : (stpS l s0 0).1.1.pt.1 = true) (hg : w0.heap.size ≤ g) (hL : ∀ q ∈ L, q.1 ≠ g) : RdI w0 g A n c l s0 L (0 :: ts) 5 (W.setCell ⟨g, 12, none⟩ (.int .i64 63)) := by
  obtain ⟨⟨s, bl, v, xs, e, hr, h3⟩, hc⟩ := h
  refine ⟨⟨s, bl, v, xs, e, ?_, h3⟩, hc.far hL _⟩
  have := runS_pt0 l e hn
  have e5 : ahdS s 5 = { s with pa := 63 } := by unfold ahdS; rw [this, hI, if_pos ⟨by decide, rfl⟩]
  rw [ahd_low s (by decide)] at hr
  rw [e5]
  exact hr.turn hg (turn_set (Turn.refl _ W) 12 (.int .i64 63)) (hr.cell.set_ 12 (.int .i64 63)) rfl
/-- behind a block nothing is set any more. -/
theorem RdI.again (h : RdI w0 g A n c l s0 L (ts ++ [5]) 0 W) : RdI w0 g A n c l s0 L (ts ++ [5]) 5 W := by
  obtain ⟨⟨s, bl, v, xs, e, hr, h3⟩, hc⟩ := h
  refine ⟨⟨s, bl, v, xs, e, ?_, h3⟩, hc⟩
  rw [ahd_low s (by decide)] at hr
  rw [runS_end5 l e]
  exact hr
/-- how many blocks are wanted, and the list that is gone through. -/
theorem RdI.count (h : RdI w0 g A n c l s0 L (0 :: nxtS (stpS l s0 0).1.1) 5 W) : ∃ pa, W.cell? ⟨g, 12, none⟩ = some (.int .i64 pa) ∧ tagsS l s0 = 0 :: (nxtS (stpS l s0 0).1.1 ++ List.replicate (cntP pa) 5) := by
  obtain ⟨⟨s, bl, v, xs, e, hr, h3⟩, hc⟩ := h
  exact ⟨_, hr.cell.cell 12, tags_of l e⟩
end
end Go.Proofs.YtcojnigkgbmbmaaGreatDoor
namespace Go.Proofs.YtcojnigkgbmbmaaGreatDoor
open Go Go.RowKit
attribute [local go_sem] Oper.semAt_some
theorem rd_partP (g k : Nat) (fr : Int) (w : World) : Calls Tryz.prog 74 #[.pointer (some ⟨g, 0, none⟩), .pointer (some ⟨g, k, none⟩), .int .i64 fr] w fun e w' => ∃ b0 b1 b2, e = .returned (.func (.func 111) #[] #[.pointer (some ⟨b0, 0, none⟩), .pointer (some ⟨b1, 0, none⟩), .pointer (some ⟨b2, 0, none⟩)]) ∧
    Below w.heap.size w w' ∧ Blk w' b0 57 #[.pointer (some ⟨g, 0, none⟩)] ∧ Blk w' b1 3 #[.int .i64 fr] ∧ Blk w' b2 102 #[.pointer (some ⟨g, k, none⟩)] := by
  refine (rd_part g k fr w).mono ?_
  rintro e w' ⟨rfl, rfl⟩
  refine ⟨_, _, _, rfl, ?_, ?_, ?_, ?_⟩
  · exact (((Below.refl _ w).alloc (Nat.le_refl _) _).alloc (by simp) _).alloc (by simp; omega) _
  · (repeat (first | (refine blkAt (Blk.new _ _ _) ?_; simp [World.size_alloc]; done) | refine Blk.alloc ?_ _))
  · (repeat (first | (refine blkAt (Blk.new _ _ _) ?_; simp [World.size_alloc]; done) | refine Blk.alloc ?_ _))
  · (repeat (first | (refine blkAt (Blk.new _ _ _) ?_; simp [World.size_alloc]; done) | refine Blk.alloc ?_ _))
theorem stV_2 (g b0 b1 b2 : Nat) : stV g (2, b0, b1, b2) = .func (.func 111) #[] #[.pointer (some ⟨b0, 0, none⟩), .pointer (some ⟨b1, 0, none⟩), .pointer (some ⟨b2, 0, none⟩)] := rfl
theorem stV_3 (g b0 b1 b2 : Nat) : stV g (3, b0, b1, b2) = .func (.func 111) #[] #[.pointer (some ⟨b0, 0, none⟩), .pointer (some ⟨b1, 0, none⟩), .pointer (some ⟨b2, 0, none⟩)] := rfl
set_option maxRecDepth 100000 in
set_option maxHeartbeats 8000000 in
theorem steps_seqA (k : Nat) (hk : 1 ≤ k) (g bc : Nat) (x0 y0 : Int) (i q v c : Bool) (hci : c = true → i = false) (T1 T2 T3 TL : List Nat) (R : List Nat → Nat → World → Prop) (T : World → Prop)
    (hT1 : T1 = 0 :: (if q then [1] else [])) (hT2 : T2 = T1 ++ (if v then [2, 3] else [])) (hT3 : T3 = T2 ++ (if c then [4] else []))
    (hRb : ∀ ts u W W', R ts u W → Below W.heap.size W W' → R ts u W') (hTb : ∀ W W', T W → Below W.heap.size W W' → T W')
    (hB0 : ∀ ts u W, R ts u W → Blk W bc 57 #[.pointer (some ⟨g, 0, none⟩)]) (hB1 : ∀ W, T W → Blk W bc 57 #[.pointer (some ⟨g, 0, none⟩)])
    (hC3 : ∀ W, R [0] 0 W → W.cell? ⟨g, 3, none⟩ = some (.bool q)) (hC4 : ∀ W, T W → W.cell? ⟨g, 4, none⟩ = some (.bool v)) (hC14 : ∀ W, T W → W.cell? ⟨g, 14, none⟩ = some (.int .i64 x0)) (hC15 : ∀ W, T W → W.cell? ⟨g, 15, none⟩ = some (.int .i64 y0))
    (hC2 : ∀ W, R T2 0 W → W.cell? ⟨g, 2, none⟩ = some (.bool i)) (hC6 : ∀ W, R T2 5 W → W.cell? ⟨g, 6, none⟩ = some (.bool c)) (hCg : ∀ ts u W, R ts u W → ∃ C, C.size = 16 ∧ Blk W g 61 C)
    (hRT1 : ∀ W, R T1 0 W → T W) (hRT2 : ∀ W, R (T1 ++ [2]) 0 W → T W) (hlow : ∀ ts u W, R ts 0 W → u < 4 → R ts u W) (h5 : ∀ W, i = false → R T2 0 W → R T2 5 W) (h5' : ∀ W, i = false → R T3 0 W → R T3 5 W) (hset : ∀ W, i = true → R T2 0 W → R T2 5 (W.setCell ⟨g, 12, none⟩ (.int .i64 63)))
    (h4 : ∀ W, R T2 5 W → R T2 4 W) (hag : ∀ ts W, R (ts ++ [5]) 0 W → R (ts ++ [5]) 5 W) (hcnt : ∀ W, R T3 5 W → ∃ pa, W.cell? ⟨g, 12, none⟩ = some (.int .i64 pa) ∧ TL = T3 ++ List.replicate (cntP pa) 5) (hpre : T3 <+: TL) :
    SeqX Fence.wide k Tryz.prog 71 #[.pointer (some ⟨bc, 0, none⟩)] (fun x : SEl => #[stV g x])
      (fun _ W => R [] 0 W) (fun pre x W => R (tgs pre) x.1 W ∧ PtB g x0 y0 x W) (fun pre W => R (tgs pre) 0 W) (fun pre W => R (tgs pre) 5 W) (fun xs => tgs xs = TL) (fun pre => tgs pre <+: TL) T := by
  intro lp K Jx W hK hJS hY h00 hk0
  refine callsIn_of_wp Tryz.func71 rfl trivial ?_ rfl
  simp only [Tryz.ntmps71, List.size_toArray, List.length_cons, List.length_nil, Nat.reduceAdd, Nat.reduceSub, Array.replicate_succ, Array.replicate_zero, List.push_toArray, List.append_toArray, List.nil_append, List.cons_append]
  have HY := Lib.hid hY; have HK := Lib.hid hK; have HJS := Lib.hid hJS; have HK0 := Lib.hid hk0; have H0 := Lib.hid h00
  have HRb := Lib.hid hRb; have HTb := Lib.hid hTb; have HB0 := Lib.hid hB0; have HB1 := Lib.hid hB1; have HC3 := Lib.hid hC3; have HC4 := Lib.hid hC4; have HC14 := Lib.hid hC14; have HC15 := Lib.hid hC15
  have HC2 := Lib.hid hC2; have HC6 := Lib.hid hC6; have HCg := Lib.hid hCg; have HRT1 := Lib.hid hRT1; have HRT2 := Lib.hid hRT2; have Hlow := Lib.hid hlow; have H5 := Lib.hid h5; have H5' := Lib.hid h5'; have Hset := Lib.hid hset; have H4 := Lib.hid h4
  have Hag := Lib.hid hag; have Hcnt := Lib.hid hcnt; have Hpre := Lib.hid hpre; have HT1 := Lib.hid hT1; have HT2 := Lib.hid hT2; have HT3 := Lib.hid hT3; have Hci := Lib.hid hci
  clear hY hK hJS hk0 h00 hRb hTb hB0 hB1 hC3 hC4 hC14 hC15 hC2 hC6 hCg hRT1 hRT2 hlow h5 h5' hset h4 hag hcnt hpre hT1 hT2 hT3 hci
  gi_upto_region 0 with fail
  gi_cut [21] from 2 (fun s21 wx => (s21 = .bool true ∧ Hid (∃ pre, tgs pre <+: TL ∧ Jx pre wx)) ∨ (s21 = .bool false ∧ ∃ pre, Hid (tgs pre = T1) ∧ Hid (R T1 0 wx) ∧ Hid (K wx)))
  case first =>
    have z0 := (HB0.out _ _ _ H0.out).cell 0
    (try dsimp only at z0)
    obtain ⟨fn, tmps, assign, body, hyy, hR⟩ := HY.out [] (0, 0, 0, 0) W ⟨H0.out, trivial⟩ HK0.out ((show [0] <+: T3 by rw [HT3.out, HT2.out, HT1.out]; exact ⟨_, by simp; rfl⟩).trans Hpre.out)
    have HRd := Lib.hid hR
    dsimp only [stV] at hyy
    clear hR
    gi_wp2_with fail
    refine HRd.out.mono ?_
    rintro e W1 (⟨rfl, hI, hk1⟩ | ⟨rfl, hJ⟩)
    · have z1 := (HB0.out _ _ _ hI).cell 0
      have z2 := HC3.out _ hI
      have HI := Lib.hid hI; have HK1 := Lib.hid hk1
      (try dsimp only at z1 z2)
      clear hI hk1 hyy HRd z0
      have hTq : tgs [((0, 0, 0, 0) : SEl)] = [0] := rfl
      cases q with
      | false =>
        have hT1 : T1 = [0] := HT1.out
        gi_wp2_with (refine wpListIn_skip (by rfl) (by rfl) ?_)
        gi_meet
        case rel => exact .inr ⟨rfl, [(0, 0, 0, 0)], Lib.hid (by rw [hT1]; rfl), Lib.hid (by rw [hT1]; exact HI.out), HK1⟩
      | true =>
        have hT1 : T1 = [0, 1] := HT1.out
        obtain ⟨fn, tmps, assign, body, hyy, hR⟩ := HY.out [(0, 0, 0, 0)] (1, 0, 0, 0) W1 ⟨Hlow.out _ _ _ HI.out (by decide), trivial⟩ HK1.out ((show [0, 1] <+: T3 by rw [HT3.out, HT2.out, hT1]; exact ⟨_, by simp; rfl⟩).trans Hpre.out)
        have HRd := Lib.hid hR
        dsimp only [stV] at hyy
        clear hR hTq
        have HTT := Lib.hid hT1
        clear hT1
        gi_wp2_with fail
        refine HRd.out.mono ?_
        rintro e W2 (⟨rfl, hI, hk1⟩ | ⟨rfl, hJ⟩)
        · have HI2 := Lib.hid hI; have HK2 := Lib.hid hk1
          clear hI hk1 hyy HRd z1 z2
          gi_wp2_with fail
          gi_meet
          case rel => exact .inr ⟨rfl, [(0, 0, 0, 0), (1, 0, 0, 0)], Lib.hid (by rw [HTT.out]; rfl), Lib.hid (by rw [HTT.out]; exact HI2.out), HK2⟩
        · have HJ2 := Lib.hid hJ
          clear hJ hyy HRd z1 z2
          gi_wp2_with fail
          gi_meet
          case rel => exact .inl ⟨rfl, Lib.hid ⟨[(0, 0, 0, 0), (1, 0, 0, 0)], (show [0, 1] <+: T3 by rw [HT3.out, HT2.out, HTT.out]; exact ⟨_, by simp; rfl⟩).trans Hpre.out, HJ2.out⟩⟩
    · have HJ2 := Lib.hid hJ
      clear hJ hyy HRd z0
      gi_wp2_with (refine wpListIn_skip (by rfl) (by rfl) ?_)
      gi_meet
      case rel => exact .inl ⟨rfl, Lib.hid ⟨[(0, 0, 0, 0)], (show [0] <+: T3 by rw [HT3.out, HT2.out, HT1.out]; exact ⟨_, by simp; rfl⟩).trans Hpre.out, HJ2.out⟩⟩
  rcases hcut with ⟨rfl, HS⟩ | ⟨rfl, pre, HT, HRr, HK1⟩
  · gi_wp2_with fail
    refine bodyPost_ret (results_none rfl _ _ _) rfl ?_
    exact ⟨⟨_, rfl⟩, .inr HS.out⟩
  gi_upto_region 1 with fail
  gi_cut [56] from 2 (fun s56 wx => (s56 = .bool true ∧ Hid (∃ pre, tgs pre <+: TL ∧ Jx pre wx)) ∨ (s56 = .bool false ∧ ∃ pre, Hid (tgs pre = T2) ∧ Hid (R T2 0 wx) ∧ Hid (K wx)))
  case first =>
    have hB0 : Below wc.heap.size wc wc.drew := (Below.refl _ wc).drew
    have hR0 := HRb.out _ _ _ _ HRr.out hB0
    have HR0 := Lib.hid hR0
    have HS0 := Lib.hid (HRT1.out _ hR0)
    have HK0' := Lib.hid (HK.out.below HK1.out hB0)
    have HTT := Lib.hid (show tgs pre = T1 from HT.out)
    clear hB0 hR0
    refine wpIn_region_treeI (fun w' => T w') 31 (.take 0 (.take 1 (.take 2 (.take 3 (.take 4 (.take 5 (.take 6 (.take 7 (.take 8 (.take 9 (.take 10 (.take 11 (.take 12 (.take 13 (.take 14 (.take 15 (.step 16 (.step 17 (.take 18 (.take 19 (.take 20 (.take 21 (.take 22 (.take 23 (.take 24 (.take 25 (.take 26 (.take 27 (.take 28 (.take 29 (.step 30 .done))))))))))))))))))))))))))))))) rfl (by kernel_rfl) (by kernel_rfl) (fun _ _ d _ _ h => by cases d <;> exact h) (by simp only [Pln.out, Array.getD_eq_getD_getElem?, List.getElem?_toArray, List.getElem?_cons_zero, List.getElem?_cons_succ, Option.getD_some]; rfl) (by simp only [List.map_cons, List.map_nil]; rfl) (HS0.out) (fun PE hPE => ?_)
    iterate 6
      refine treeI_take (v := ?_) rfl (by rfl) ?_ (fun _ => rfl) ?_
      rotate_left
      · intro _ hSw; (try dsimp only at hSw); have z0 := (HB1.out _ hSw).cell 0; have z1 := HC4.out _ hSw; go_simp; (try with_reducible rfl)
      simp only [List.setIfInBounds_toArray, List.set_cons_zero, List.set_cons_succ]
    cases v with
    | false =>
      iterate 10
        refine treeI_pass rfl (by rfl) (fun _ => rfl) ?_
        simp only [List.setIfInBounds_toArray, List.set_cons_zero, List.set_cons_succ]
      refine treeI_skip (by rfl) rfl HS0.out ?_
      simp only [List.setIfInBounds_toArray, List.set_cons_zero, List.set_cons_succ]
      refine treeI_skip (by rfl) rfl HS0.out ?_
      simp only [List.setIfInBounds_toArray, List.set_cons_zero, List.set_cons_succ]
      iterate 12
        refine treeI_pass rfl (by rfl) (fun _ => rfl) ?_
        simp only [List.setIfInBounds_toArray, List.set_cons_zero, List.set_cons_succ]
      refine treeI_skip (by rfl) rfl HS0.out ?_
      simp only [List.setIfInBounds_toArray, List.set_cons_zero, List.set_cons_succ]
      refine hPE _ _ ?_
      clear hPE PE
      simp only [List.drop_succ_cons, List.drop_zero, List.drop_nil]
      gi_wp2_with (refine wpListIn_skip (by rfl) (by rfl) ?_)
      gi_meet
      case rel => exact .inr ⟨rfl, pre, Lib.hid (by rw [HT2.out, HTT.out]; simp), Lib.hid (by rw [HT2.out]; simpa using HR0.out), HK0'⟩
    | true =>
      iterate 10
        refine treeI_take (v := ?_) rfl (by rfl) ?_ (fun _ => rfl) ?_
        rotate_left
        · intro _ hSw; (try dsimp only at hSw); have z0 := (HB1.out _ hSw).cell 0; have z2 := HC14.out _ hSw; go_simp; (try with_reducible rfl)
        simp only [List.setIfInBounds_toArray, List.set_cons_zero, List.set_cons_succ]
      have C := Lib.hid (rd_partP g 10 x0 wc.drew)
      refine treeI_call (f := 74) rfl (by rfl) (by first | (go_simp; done) | (go_simp; rfl)) C.out ?_
      rintro e w2 ⟨b0, b1, b2, rfl, hb2, hp0, hp1, hp2⟩
      have HR2 := Lib.hid (HRb.out _ _ _ _ HR0.out hb2)
      have HS2 := Lib.hid (HTb.out _ _ HS0.out hb2)
      have HK2 := Lib.hid (HK.out.below HK0'.out hb2)
      refine ⟨_, rfl, T, fun _ h => h, HS2.out, ?_⟩
      simp only [List.setIfInBounds_toArray, List.set_cons_zero, List.set_cons_succ]
      have HP2 := Lib.hid (show T1 ++ [2] <+: TL from (show T1 ++ [2] <+: T3 by rw [HT3.out, HT2.out]; exact ⟨_, by simp; rfl⟩).trans Hpre.out)
      obtain ⟨fn, tmps, assign, body, hyy, hR⟩ := HY.out pre (2, b0, b1, b2) w2 ⟨Hlow.out _ 2 _ (by rw [HTT.out]; exact HR2.out) (by decide), hp0, hp1, hp2⟩ HK2.out (by show tgs _ <+: TL; rw [tgs_snoc, HTT.out]; exact HP2.out)
      have HRd := Lib.hid hR
      simp only [stV_2] at hyy
      clear hR hb2 hp0 hp1 hp2
      refine treeI_yield rfl (by rfl) (by first | (go_simp; done) | (go_simp; rfl)) HRd.out ?_
      rintro e W3 (⟨rfl, hI, hk1⟩ | ⟨rfl, hJ⟩)
      · rw [tgs_snoc, HTT.out] at hI
        have HI3 := Lib.hid hI; have HK3 := Lib.hid hk1
        have HS3 := Lib.hid (HRT2.out _ hI)
        clear hI hk1 hyy HRd
        refine ⟨_, rfl, T, fun _ h => h, HS3.out, ?_⟩
        simp only [List.setIfInBounds_toArray, List.set_cons_zero, List.set_cons_succ]
        iterate 2
          refine treeI_take (v := ?_) rfl (by rfl) ?_ (fun _ => rfl) ?_
          rotate_left
          · intro _ hSw; (try dsimp only at hSw); go_simp; (try with_reducible rfl)
          simp only [List.setIfInBounds_toArray, List.set_cons_zero, List.set_cons_succ]
        iterate 10
          refine treeI_take (v := ?_) rfl (by rfl) ?_ (fun _ => rfl) ?_
          rotate_left
          · intro _ hSw; (try dsimp only at hSw); have z0 := (HB1.out _ hSw).cell 0; have z2 := HC15.out _ hSw; go_simp; (try with_reducible rfl)
          simp only [List.setIfInBounds_toArray, List.set_cons_zero, List.set_cons_succ]
        have C4 := Lib.hid (rd_partP g 11 y0 W3)
        refine treeI_call (f := 74) rfl (by rfl) (by first | (go_simp; done) | (go_simp; rfl)) C4.out ?_
        rintro e w4 ⟨c0, c1, c2, rfl, hb4, hq0, hq1, hq2⟩
        have HR4 := Lib.hid (HRb.out _ _ _ _ HI3.out hb4)
        have HS4 := Lib.hid (HTb.out _ _ HS3.out hb4)
        have HK4 := Lib.hid (HK.out.below HK3.out hb4)
        refine ⟨_, rfl, T, fun _ h => h, HS4.out, ?_⟩
        simp only [List.setIfInBounds_toArray, List.set_cons_zero, List.set_cons_succ]
        have HP4 := Lib.hid (show (T1 ++ [2]) ++ [3] <+: TL from (show (T1 ++ [2]) ++ [3] <+: T3 by rw [HT3.out, HT2.out]; exact ⟨_, by simp; rfl⟩).trans Hpre.out)
        obtain ⟨fn, tmps, assign, body, hyy, hR⟩ := HY.out (pre ++ [(2, b0, b1, b2)]) (3, c0, c1, c2) w4 ⟨Hlow.out _ 3 _ (by rw [tgs_snoc, HTT.out]; exact HR4.out) (by decide), hq0, hq1, hq2⟩ HK4.out (by show tgs _ <+: TL; rw [tgs_snoc, tgs_snoc, HTT.out]; exact HP4.out)
        have HRd := Lib.hid hR
        simp only [stV_3] at hyy
        clear hR hb4 hq0 hq1 hq2
        refine hPE _ _ ?_
        clear hPE PE
        simp only [List.drop_succ_cons, List.drop_zero, List.drop_nil]
        gi_wp2_with fail
        refine HRd.out.mono ?_
        rintro e W5 (⟨rfl, hI, hk1⟩ | ⟨rfl, hJ⟩)
        · simp only [tgs_snoc, HTT.out] at hI
          have HI5 := Lib.hid hI; have HK5 := Lib.hid hk1
          clear hI hk1 hyy HRd
          gi_wp2_with fail
          gi_meet
          case rel => exact .inr ⟨rfl, pre ++ [(2, b0, b1, b2)] ++ [(3, c0, c1, c2)], Lib.hid (by rw [tgs_snoc, tgs_snoc, HT2.out, HTT.out]; simp), Lib.hid (by rw [HT2.out]; simpa using HI5.out), HK5⟩
        · have HJ5 := Lib.hid hJ
          clear hJ hyy HRd
          gi_wp2_with fail
          gi_meet
          case rel => exact .inl ⟨rfl, Lib.hid ⟨pre ++ [(2, b0, b1, b2)] ++ [(3, c0, c1, c2)], by show tgs _ <+: TL; rw [tgs_snoc, tgs_snoc, HTT.out]; exact HP4.out, HJ5.out⟩⟩
      · have HJ3 := Lib.hid hJ
        have HS3 := Lib.hid (HJS.out _ _ hJ)
        clear hJ hyy HRd
        refine ⟨_, rfl, T, fun _ h => h, HS3.out, ?_⟩
        simp only [List.setIfInBounds_toArray, List.set_cons_zero, List.set_cons_succ]
        iterate 2
          refine treeI_take (v := ?_) rfl (by rfl) ?_ (fun _ => rfl) ?_
          rotate_left
          · intro _ hSw; (try dsimp only at hSw); go_simp; (try with_reducible rfl)
          simp only [List.setIfInBounds_toArray, List.set_cons_zero, List.set_cons_succ]
        iterate 10
          refine treeI_pass rfl (by rfl) (fun _ => rfl) ?_
          simp only [List.setIfInBounds_toArray, List.set_cons_zero, List.set_cons_succ]
        refine treeI_skip (by rfl) rfl HS3.out ?_
        simp only [List.setIfInBounds_toArray, List.set_cons_zero, List.set_cons_succ]
        refine hPE _ _ ?_
        clear hPE PE
        simp only [List.drop_succ_cons, List.drop_zero, List.drop_nil]
        gi_wp2_with (refine wpListIn_skip (by rfl) (by rfl) ?_)
        gi_meet
        case rel => exact .inl ⟨rfl, Lib.hid ⟨pre ++ [(2, b0, b1, b2)], by show tgs _ <+: TL; rw [tgs_snoc, HTT.out]; exact HP2.out, HJ3.out⟩⟩
  rcases hcut with ⟨rfl, HS⟩ | ⟨rfl, pre, HT, HRr, HK1⟩
  · gi_wp2_with fail
    refine bodyPost_ret (results_none rfl _ _ _) rfl ?_
    exact ⟨⟨_, rfl⟩, .inr HS.out⟩
  have z0 := (HB0.out _ _ _ HRr.out).cell 0
  have z1 := HC2.out _ HRr.out
  obtain ⟨CC, hCC, hbC⟩ := HCg.out _ _ _ HRr.out
  have z2 : wc.cell? ⟨g, 12, none⟩ = some (CC[12]'(by omega)) := by rw [hbC.cell 12]; simp [hCC]
  have z3 := hbC.frozen 12
  have HbC := Lib.hid hbC
  clear hbC
  (try dsimp only at z0 z1 z2 z3)
  gi_upto_if 61 with fail
  gi_cut [] from 2 (fun wx => ∃ pre, Hid (tgs pre = T2) ∧ Hid (R T2 5 wx) ∧ Hid (K wx))
  case first =>
    cases i with
    | false =>
      gi_wp2_with fail
      gi_meet
      case rel => exact ⟨pre, HT, Lib.hid (H5.out _ (by trivial) HRr.out), HK1⟩
    | true =>
      gi_wp2_with fail
      gi_meet
      case rel => exact ⟨pre, HT, Lib.hid (Hset.out _ (by trivial) HRr.out), Lib.hid (HK.out.set (p := ⟨g, 12, none⟩) HK1.out HbC.out)⟩
  clear z0 z1 z2 z3 HbC
  obtain ⟨pre2, HTa, HRa, HKa⟩ := hcut
  have z0 := (HB0.out _ _ _ HRa.out).cell 0
  have z1 := HC6.out _ HRa.out
  (try dsimp only at z0 z1)
  gi_upto_region 4 with fail
  gi_cut [77] from 2 (fun s77 wx => (s77 = .bool true ∧ Hid (∃ pre, tgs pre <+: TL ∧ Jx pre wx)) ∨ (s77 = .bool false ∧ ∃ pre, Hid (tgs pre = T3) ∧ Hid (R T3 5 wx) ∧ Hid (K wx)))
  case first =>
    cases c with
    | false =>
      gi_wp2_with (refine wpListIn_skip (by rfl) (by rfl) ?_)
      gi_meet
      case rel => exact .inr ⟨rfl, pre2, Lib.hid (by rw [HTa.out, HT3.out]; simp), Lib.hid (by rw [HT3.out]; simpa using HRa.out), HKa⟩
    | true =>
      have HT4 : Hid (T3 = T2 ++ [4]) := Lib.hid (by rw [HT3.out]; simp)
      obtain ⟨fn, tmps, assign, body, hyy, hR⟩ := HY.out pre2 (4, 0, 0, 0) _ ⟨by rw [HTa.out]; exact H4.out _ HRa.out, trivial⟩ HKa.out (by show tgs _ <+: TL; rw [tgs_snoc, HTa.out]; have h := Hpre.out; rw [HT4.out] at h; exact h)
      have HRd := Lib.hid hR
      dsimp only [stV] at hyy
      clear hR
      gi_wp2_with fail
      refine HRd.out.mono ?_
      rintro e W5 (⟨rfl, hI, hk1⟩ | ⟨rfl, hJ⟩)
      · rw [tgs_snoc, HTa.out] at hI
        have HI5 := Lib.hid hI; have HK5 := Lib.hid hk1
        clear hI hk1 hyy HRd z0 z1
        gi_wp2_with fail
        gi_meet
        case rel => exact .inr ⟨rfl, pre2 ++ [(4, 0, 0, 0)], Lib.hid (by rw [tgs_snoc, HTa.out, HT4.out]), Lib.hid (H5'.out _ (Hci.out (by trivial)) (by rw [HT4.out]; exact HI5.out)), HK5⟩
      · have HJ5 := Lib.hid hJ
        clear hJ hyy HRd z0 z1
        gi_wp2_with fail
        gi_meet
        case rel => exact .inl ⟨rfl, Lib.hid ⟨pre2 ++ [(4, 0, 0, 0)], by show tgs _ <+: TL; rw [tgs_snoc, HTa.out]; have h := Hpre.out; rw [HT4.out] at h; exact h, HJ5.out⟩⟩
  clear z0 z1
  rcases hcut with ⟨rfl, HS⟩ | ⟨rfl, pre3, HTb3, HRc, HKc⟩
  · gi_wp2_with fail
    refine bodyPost_ret (results_none rfl _ _ _) rfl ?_
    exact ⟨⟨_, rfl⟩, .inr HS.out⟩
  have z0 := (HB0.out _ _ _ HRc.out).cell 0
  obtain ⟨pa, z1, htl⟩ := Hcnt.out _ HRc.out
  obtain ⟨cn, hcn⟩ : ∃ cn, cntP pa = cn := ⟨_, rfl⟩
  have hc6 : cn ≤ 6 := by rw [← hcn]; unfold cntP; split <;> omega
  have CP := Lib.hid (fun W => pattern_Count pa W)
  rw [hcn] at htl CP
  have HTL := Lib.hid htl; have HC6n := Lib.hid hc6
  clear htl hcn hc6
  (try dsimp only at z0 z1)
  gi_wp2_with (refine ⟨trivial, ?_⟩; gi_at_call 60; refine (callsIn_wide.2 (CP.out _)).mono ?_; rintro e w2 ⟨rfl, hb2⟩; have HB2 := Lib.hid hb2; clear hb2 z0 z1)
  gi_loopg [84] cn (fun gk i => fun wr => ∃ (j : Nat), j + gk = cn ∧ i = .int .i64 (j : Int) ∧ ∃ pre, Hid (tgs pre = T3 ++ List.replicate j 5) ∧ Hid (R (tgs pre) 5 wr) ∧ Hid (K wr))
  case atStart =>
    exact ⟨0, by omega, rfl, pre3, Lib.hid (by rw [HTb3.out]; simp), Lib.hid (by rw [HTb3.out]; exact HRb.out _ _ _ _ HRc.out HB2.out), Lib.hid (HK.out.below HKc.out HB2.out)⟩
  case round =>
    obtain ⟨j, hj, rfl, pre4, HTd, HRd4, HKd⟩ := hrel
    have z0 := (HB0.out _ _ _ HRd4.out).cell 0
    (try dsimp only at z0)
    have HJ := Lib.hid hj
    cases gk with
    | zero =>
      have hlt : ¬ ((j : Int) < (cn : Int)) := by omega
      have hjc : j = cn := by omega
      have HJC := Lib.hid hjc
      clear hj hjc
      gi_wp2_with fail
      refine bodyPost_end (results_none rfl _ _ _) rfl ?_
      exact ⟨⟨_, rfl⟩, .inl ⟨pre4, by rw [HTd.out, HTL.out, HJC.out], HRd4.out, HKd.out⟩⟩
    | succ gk =>
      have hlt : ((j : Int) < (cn : Int)) := by omega
      have hw1 : IntKind.i64.wrap ((j : Int) + 1) = (j : Int) + 1 := by have := HC6n.out; rw [IntKind.wrap_i64]; omega
      have HP4 : Hid (tgs (pre4 ++ [((5, 0, 0, 0) : SEl)]) = T3 ++ List.replicate (j + 1) 5) := Lib.hid (by rw [tgs_snoc, HTd.out, List.append_assoc, List.replicate_succ'])
      have HPT : Hid (tgs (pre4 ++ [((5, 0, 0, 0) : SEl)]) <+: TL) := Lib.hid (by
        rw [HP4.out, HTL.out]
        refine (List.prefix_append_right_inj _).2 ?_
        refine ⟨List.replicate (cn - (j + 1)) 5, ?_⟩
        rw [List.replicate_append_replicate]
        congr 1
        omega)
      obtain ⟨fn, tmps, assign, body, hyy, hR⟩ := HY.out pre4 (5, 0, 0, 0) _ ⟨HRd4.out, trivial⟩ HKd.out HPT.out
      have HRd := Lib.hid hR
      dsimp only [stV] at hyy
      clear hR hj
      gi_wp2_with fail
      refine HRd.out.mono ?_
      rintro e W5 (⟨rfl, hI, hk1⟩ | ⟨rfl, hJ⟩)
      · have hI' : R (tgs pre4 ++ [5]) 0 W5 := by rw [tgs_snoc] at hI; exact hI
        have HI5 := Lib.hid (Hag.out _ _ hI'); have HK5 := Lib.hid hk1
        clear hI hI' hk1 hyy HRd z0
        gi_wp2_with fail
        gi_roundg gk
        case measure => omega
        case rel => exact ⟨j + 1, by have := HJ.out; omega, rfl, pre4 ++ [(5, 0, 0, 0)], HP4, Lib.hid (by rw [tgs_snoc]; exact HI5.out), HK5⟩
      · have HJ5 := Lib.hid hJ
        clear hJ hyy HRd z0
        gi_wp2_with fail
        refine bodyPost_ret (results_none rfl _ _ _) rfl ?_
        exact ⟨⟨_, rfl⟩, .inr ⟨_, HPT.out, HJ5.out⟩⟩
end Go.Proofs.YtcojnigkgbmbmaaGreatDoor
namespace Go.Proofs.YtcojnigkgbmbmaaGreatDoor
open Go Go.RowKit
def SgIS (w0 : World) (g : Nat) (A : Option Addr) (n c : Nat) (l : List UInt8) (s0 : RdS) (L : List CellF) : List SEl → World → Prop := fun _ W => RdI w0 g A n c l s0 L [] 0 W
def SgI (w0 : World) (g : Nat) (A : Option Addr) (n c : Nat) (l : List UInt8) (s0 : RdS) (L : List CellF) : List SEl → SEl → World → Prop := fun pre x W => RdI w0 g A n c l s0 L (tgs pre) x.1 W ∧ PtB g s0.x s0.y x W
def SgI2 (w0 : World) (g : Nat) (A : Option Addr) (n c : Nat) (l : List UInt8) (s0 : RdS) (L : List CellF) : List SEl → World → Prop := fun pre W => RdI w0 g A n c l s0 L (tgs pre) 0 W
def SgIE (w0 : World) (g : Nat) (A : Option Addr) (n c : Nat) (l : List UInt8) (s0 : RdS) (L : List CellF) : List SEl → World → Prop := fun pre W => RdI w0 g A n c l s0 L (tgs pre) 5 W
theorem StS.one {g : Nat} {A : Option Addr} {n c : Nat} {pt : Bool × Bool × Bool × Bool × Bool} {x y : Int} {p : CellF} {L : List CellF} {W : World} (h : StS g A n c pt x y (p :: L) W) : StS g A n c pt x y [p] W := ⟨CellsAt.cons h.cl.head (cellsAt_nil _), h.ex⟩
theorem steps_seq (k : Nat) (hk : 1 ≤ k) (w0 : World) (g bc : Nat) (A : Option Addr) (n c : Nat) (l : List UInt8) (s0 : RdS) (L : List CellF) (hg : w0.heap.size ≤ g) (hL : ∀ q ∈ (bc, 57, #[Value.pointer (some ⟨g, 0, none⟩)]) :: L, q.1 ≠ g) :
    SeqX Fence.wide k Tryz.prog 71 #[.pointer (some ⟨bc, 0, none⟩)] (fun x : SEl => #[stV g x])
      (SgIS w0 g A n c l s0 ((bc, 57, #[.pointer (some ⟨g, 0, none⟩)]) :: L)) (SgI w0 g A n c l s0 ((bc, 57, #[.pointer (some ⟨g, 0, none⟩)]) :: L)) (SgI2 w0 g A n c l s0 ((bc, 57, #[.pointer (some ⟨g, 0, none⟩)]) :: L)) (SgIE w0 g A n c l s0 ((bc, 57, #[.pointer (some ⟨g, 0, none⟩)]) :: L))
      (fun xs => tgs xs = tagsS l s0) (fun pre => tgs pre <+: tagsS l s0) (StS g A n c (stpS l s0 0).1.1.pt s0.x s0.y [(bc, 57, #[.pointer (some ⟨g, 0, none⟩)])]) := by
  have e0 : ∀ b1 b2 b3 : Bool, (0 : Nat) ∉ (if b1 then [1] else []) ++ (if b2 then [2, 3] else []) ++ (if b3 then [4] else []) := by decide
  have e1 : ∀ b1 : Bool, (0 : Nat) ∉ (if b1 then [1] else []) := by decide
  have e2 : ∀ b1 b2 : Bool, (0 : Nat) ∉ (if b1 then [1] else []) ++ (if b2 then [2, 3] else []) := by decide
  have e3 : ∀ b1 : Bool, (0 : Nat) ∉ (if b1 then [1] else []) ++ [2] := by decide
  have hkd : (stpS l s0 0).1.1.pt = ptK (stpS l s0 0).1.1.kd := rfl
  refine steps_seqA k hk g bc s0.x s0.y (stpS l s0 0).1.1.pt.1 (stpS l s0 0).1.1.pt.2.1 (stpS l s0 0).1.1.pt.2.2.1 (stpS l s0 0).1.1.pt.2.2.2.2 ?_
    (0 :: (if (stpS l s0 0).1.1.pt.2.1 then [1] else [])) (0 :: ((if (stpS l s0 0).1.1.pt.2.1 then [1] else []) ++ (if (stpS l s0 0).1.1.pt.2.2.1 then [2, 3] else []))) (0 :: nxtS (stpS l s0 0).1.1) (tagsS l s0)
    (RdI w0 g A n c l s0 ((bc, 57, #[.pointer (some ⟨g, 0, none⟩)]) :: L)) (StS g A n c (stpS l s0 0).1.1.pt s0.x s0.y [(bc, 57, #[.pointer (some ⟨g, 0, none⟩)])]) rfl rfl rfl
    (fun ts u W W' h hb => h.below hb) (fun W W' h hb => h.below hb) (fun ts u W h => h.cl.head) (fun W h => h.cl.head) (fun W h => ?_) (fun W h => h.c4) (fun W h => h.c14) (fun W h => h.c15) (fun W h => ?_) (fun W h => ?_) (fun ts u W h => ?_)
    (fun W h => (h.st (e1 _)).one) (fun W h => (h.st (e3 _)).one) (fun ts u W h hu => h.low (by decide) hu) (fun W hi h => h.five (e2 _ _) hi) (fun W hi h => h.five (e0 _ _ _) hi) (fun W hi h => h.set (e2 _ _) hi hg hL) (fun W h => h.four) (fun ts W h => h.again) (fun W h => ?_) ?_
  · intro hc
    rw [hkd] at hc ⊢
    unfold ptK at hc ⊢
    split at hc
    · rename_i hi
      rw [if_pos hi]
      exact pIC hc
    · cases hc
  · obtain ⟨s, h2, h3⟩ := h.blk (ts := []) (by simp)
    have := h2.cell 3
    rw [← h3]
    exact this
  · obtain ⟨s, h2, h3⟩ := h.blk (e2 _ _)
    have := h2.cell 2
    rw [← h3]
    exact this
  · obtain ⟨s, h2, h3⟩ := h.blk (e2 _ _)
    have := h2.cell 6
    rw [← h3]
    exact this
  · obtain ⟨⟨s, bl, v, xs, e, hr, _⟩, _⟩ := h
    exact ⟨_, rfl, hr.cell⟩
  · obtain ⟨pa, h1, h2⟩ := h.count
    exact ⟨pa, h1, h2⟩
  · unfold tagsS
    exact ⟨_, rfl⟩
end Go.Proofs.YtcojnigkgbmbmaaGreatDoor
namespace Go.Proofs.YtcojnigkgbmbmaaGreatDoor
open Go Go.RowKit
theorem findR_nil : ∀ {cs : List (List UInt8)} {ns : List Int}, (∀ c ∈ cs, c ≠ []) → findR [] cs ns = none
  | [], _, _ => by rw [findR.eq_def]
  | _ :: _, [], _ => by rw [findR.eq_def]
  | c :: cs, n :: ns, h => by
    rw [findR]
    have : c.isPrefixOf ([] : List UInt8) = false := by
      have := h c (by simp)
      cases c with
      | nil => exact absurd rfl this
      | cons _ _ => rfl
    rw [this, if_neg (by decide)]
    exact findR_nil (fun d hd => h d (List.mem_cons_of_mem _ hd))
theorem treeR_over {cs : List (List UInt8)} {ns : List Int} {l : List UInt8} {i : Int} (hc : ∀ c ∈ cs, c ≠ []) (h : 8 * (l.length : Int) < i) : (treeR cs ns l i).2.1 = 0 ∧ (treeR cs ns l i).2.2 ≠ 0 := by
  unfold treeR getT
  rw [if_neg (by omega)]
  have e : min 24 (8 * l.length - i.toNat) = 0 := by omega
  rw [e, show bitsL l i.toNat 0 = [] from rfl, findR_nil hc]
  dsimp only
  split <;> exact ⟨rfl, by decide⟩
theorem kindC_ne : ∀ c ∈ kindC, c ≠ [] := by decide +kernel
theorem stpS_v (l : List UInt8) (s : RdS) (v : Value) (t : Nat) : stpS l { s with v := v } t = (({ (stpS l s t).1.1 with v := v }, (stpS l s t).1.2), (stpS l s t).2) := by
  match t with
  | 0 => rfl
  | 1 =>
    show (if 8 * (l.length : Int) < s.a + 5 then _ else _) = ((({ (if 8 * (l.length : Int) < s.a + 5 then (({ s with a := s.a + 5, qu := 0 }, []), (5 : Int)) else (({ s with a := s.a + 5, qu := ((numN l s.a.toNat 5 : Nat) : Int) }, ([] : List BlkM)), if ((numN l s.a.toNat 5 : Nat) : Int) == 0 then (9 : Int) else 0)).1.1 with v := v } : RdS), (if 8 * (l.length : Int) < s.a + 5 then (({ s with a := s.a + 5, qu := 0 }, []), (5 : Int)) else (({ s with a := s.a + 5, qu := ((numN l s.a.toNat 5 : Nat) : Int) }, ([] : List BlkM)), if ((numN l s.a.toNat 5 : Nat) : Int) == 0 then (9 : Int) else 0)).1.2), (if 8 * (l.length : Int) < s.a + 5 then (({ s with a := s.a + 5, qu := 0 }, []), (5 : Int)) else (({ s with a := s.a + 5, qu := ((numN l s.a.toNat 5 : Nat) : Int) }, ([] : List BlkM)), if ((numN l s.a.toNat 5 : Nat) : Int) == 0 then (9 : Int) else 0)).2)
    split <;> rfl
  | 2 =>
    show (if (treeR vecC vecN l s.a).2.2 != 0 then _ else _) = ((({ (if (treeR vecC vecN l s.a).2.2 != 0 then ((s, []), (treeR vecC vecN l s.a).2.2) else (({ s with a := s.a + (treeR vecC vecN l s.a).2.1, mx := (turnP s.x (treeR vecC vecN l s.a).1).1 }, ([] : List BlkM)), (turnP s.x (treeR vecC vecN l s.a).1).2)).1.1 with v := v } : RdS), (if (treeR vecC vecN l s.a).2.2 != 0 then ((s, []), (treeR vecC vecN l s.a).2.2) else (({ s with a := s.a + (treeR vecC vecN l s.a).2.1, mx := (turnP s.x (treeR vecC vecN l s.a).1).1 }, ([] : List BlkM)), (turnP s.x (treeR vecC vecN l s.a).1).2)).1.2), (if (treeR vecC vecN l s.a).2.2 != 0 then ((s, []), (treeR vecC vecN l s.a).2.2) else (({ s with a := s.a + (treeR vecC vecN l s.a).2.1, mx := (turnP s.x (treeR vecC vecN l s.a).1).1 }, ([] : List BlkM)), (turnP s.x (treeR vecC vecN l s.a).1).2)).2)
    split <;> rfl
  | 3 =>
    show (if (treeR vecC vecN l s.a).2.2 != 0 then _ else _) = ((({ (if (treeR vecC vecN l s.a).2.2 != 0 then ((s, []), (treeR vecC vecN l s.a).2.2) else (({ s with a := s.a + (treeR vecC vecN l s.a).2.1, my := (turnP s.y (treeR vecC vecN l s.a).1).1 }, ([] : List BlkM)), (turnP s.y (treeR vecC vecN l s.a).1).2)).1.1 with v := v } : RdS), (if (treeR vecC vecN l s.a).2.2 != 0 then ((s, []), (treeR vecC vecN l s.a).2.2) else (({ s with a := s.a + (treeR vecC vecN l s.a).2.1, my := (turnP s.y (treeR vecC vecN l s.a).1).1 }, ([] : List BlkM)), (turnP s.y (treeR vecC vecN l s.a).1).2)).1.2), (if (treeR vecC vecN l s.a).2.2 != 0 then ((s, []), (treeR vecC vecN l s.a).2.2) else (({ s with a := s.a + (treeR vecC vecN l s.a).2.1, my := (turnP s.y (treeR vecC vecN l s.a).1).1 }, ([] : List BlkM)), (turnP s.y (treeR vecC vecN l s.a).1).2)).2)
    split <;> rfl
  | 4 => rfl
  | _ + 5 => rfl
theorem final5 (l : List UInt8) {s0 s : RdS} {bl : List BlkM} (h : runS l (tagsS l s0) s0 [] = ((s, bl), 0)) : ahdS s 5 = s := by
  cases hI : s.pt.1 with
  | false => unfold ahdS; rw [hI, if_neg (by simp)]
  | true =>
    have h' := h
    unfold tagsS at h'
    obtain ⟨k0, h1⟩ := runS_first l h'
    have hn : ∀ k : Nat, 0 ∉ nxtS (stpS l s0 0).1.1 ++ List.replicate k 5 := fun k hm => by
      rcases List.mem_append.1 hm with hm | hm
      · revert hm
        unfold nxtS
        cases (stpS l s0 0).1.1.pt.2.1 <;> cases (stpS l s0 0).1.1.pt.2.2.1 <;> cases (stpS l s0 0).1.1.pt.2.2.2.2 <;> simp
      · have := List.eq_of_mem_replicate hm; cases this
    have hpt := runS_pt l _ h1 (hn _)
    have h2 := h1
    rw [runS_app] at h2
    split at h2
    · rename_i he
      rw [h2] at he
      cases he
    · rename_i he
      have he : (runS l (nxtS (stpS l s0 0).1.1) (stpS l s0 0).1.1 []).2 = 0 := by simpa using he
      have h3 : runS l (nxtS (stpS l s0 0).1.1) (stpS l s0 0).1.1 [] = (((runS l (nxtS (stpS l s0 0).1.1) (stpS l s0 0).1.1 []).1.1, (runS l (nxtS (stpS l s0 0).1.1) (stpS l s0 0).1.1 []).1.2), 0) := by rw [← he]
      have hpm := runS_pt l _ h3 (fun hm => hn 0 (by simpa using hm))
      have e63 : (ahdS (runS l (nxtS (stpS l s0 0).1.1) (stpS l s0 0).1.1 []).1.1 5).pa = 63 := by
        unfold ahdS
        rw [hpm, ← hpt, hI, if_pos ⟨by decide, rfl⟩]
      have e6 : tagsS l s0 = (0 :: (nxtS (stpS l s0 0).1.1 ++ List.replicate 5 5)) ++ [5] := by
        unfold tagsS
        rw [e63, show cntP 63 = 6 from by decide, List.cons_append, List.append_assoc]
        rfl
      rw [e6] at h
      exact runS_end5 l h
theorem tags_pre (l : List UInt8) (s0 : RdS) {ts : List Nat} {t : Nat} (h : ts ++ [t] <+: tagsS l s0) : (ts = [] ∧ t = 0) ∨ (∃ us, ts = 0 :: us ∧ 0 ∉ us ∧ t ≠ 0 ∧ t ≤ 5) := by
  have hn : ∀ m ∈ nxtS (stpS l s0 0).1.1 ++ List.replicate (cntP (ahdS (runS l (nxtS (stpS l s0 0).1.1) (stpS l s0 0).1.1 []).1.1 5).pa) 5, m ≠ 0 ∧ m ≤ 5 := fun m hm => by
    rcases List.mem_append.1 hm with hm | hm
    · revert hm
      unfold nxtS
      cases (stpS l s0 0).1.1.pt.2.1 <;> cases (stpS l s0 0).1.1.pt.2.2.1 <;> cases (stpS l s0 0).1.1.pt.2.2.2.2 <;> simp <;> omega
    · have := List.eq_of_mem_replicate hm; omega
  unfold tagsS at h
  generalize nxtS (stpS l s0 0).1.1 ++ List.replicate (cntP (ahdS (runS l (nxtS (stpS l s0 0).1.1) (stpS l s0 0).1.1 []).1.1 5).pa) 5 = R at h hn
  cases ts with
  | nil =>
    rw [List.nil_append] at h
    exact .inl ⟨rfl, (List.cons_prefix_cons.1 h).1⟩
  | cons u us =>
    rw [List.cons_append] at h
    obtain ⟨rfl, h2⟩ := List.cons_prefix_cons.1 h
    have ht := hn t (h2.subset (by simp))
    exact .inr ⟨us, rfl, fun hm => (hn 0 (h2.subset (by simp [hm]))).1 rfl, ht.1, ht.2⟩
theorem stp_kind2 {w0 W : World} {g : Nat} {A : Option Addr} {n c : Nat} {l : List UInt8} {s : RdS} {xs : List BkE} (h : RdW w0 g A n c s xs W) (hg : w0.heap.size ≤ g) (hA : Sl w0 A (l.map byteV)) (hn : l.length = n) (hsz : n ≤ 2 ^ 47) (h0 : 0 ≤ s.a) (h1 : s.a ≤ 9223372036854775807) :
    Calls Tryz.prog 72 #[.pointer (some ⟨g, 0, none⟩)] W (StpPost w0 g A n c l s xs 0 W) := by
  by_cases h8 : s.a ≤ 8 * (l.length : Int)
  · exact stp_kind h hg hA hn hsz h0 h8
  · have e := (treeR_over (ns := kindN) (l := l) (i := s.a) kindC_ne (by omega)).1
    refine (rd_kind g A n c l s W h.cell (hA.below h.below) hn hsz (by omega) s.a (by rw [e, Int.add_zero, IntKind.wrap_i64]; omega)).mono ?_
    rintro e' W' ⟨rfl, hc, ht⟩
    refine stp_turn h hg ht rfl ?_ rfl rfl
    have e2 : (stpS l s 0).1.1 = { s with a := s.a + (treeR kindC kindN l s.a).2.1, kd := (treeR kindC kindN l s.a).1, pt := ptK (treeR kindC kindN l s.a).1 } := rfl
    rw [e2, e, Int.add_zero] at *
    exact hc
theorem rdi_own {β : Type} {w0 : World} {g : Nat} {A : Option Addr} {n c : Nat} {l : List UInt8} {s0 : RdS} {L : List CellF} {B : Nat} (hB : w0.heap.size ≤ B) (f : β → List Nat) (u : Nat) : OwnFrom B (fun pre W => RdI w0 g A n c l s0 L (f pre) u W) := by
  rintro pre W W' row ⟨⟨s, bl, v, xs, h1, hr, h3⟩, hc⟩ hg hrow
  refine ⟨⟨s, bl, v, xs, h1, ⟨?_, ?_, ?_, fun p hp => ?_⟩, h3⟩, ?_⟩
  · exact below_grown' hr.below hg (fun r e => Nat.le_trans hB (hrow r e).1) hr.below.size
  · exact blk_grown' hr.cell hg (fun r e => (hrow r e).2)
  · exact own_grown' hr.row hg (fun r e => (hrow r e).2)
  · exact own_grown' (hr.bl p hp) hg (fun r e => (hrow r e).2)
  · exact hc.grown hg (fun r e => (hrow r e).2)
theorem ptb_own {β : Type} {g : Nat} {x0 y0 : Int} {B : Nat} (x : SEl) : OwnFrom B (fun (_ : β) W => PtB g x0 y0 x W) := by
  rintro pre W W' row h hg hrow
  obtain ⟨t, b0, b1, b2⟩ := x
  match t with
  | 0 => trivial
  | 1 => trivial
  | 2 => exact ⟨blk_grown' h.1 hg (fun r e => (hrow r e).2), blk_grown' h.2.1 hg (fun r e => (hrow r e).2), blk_grown' h.2.2 hg (fun r e => (hrow r e).2)⟩
  | 3 => exact ⟨blk_grown' h.1 hg (fun r e => (hrow r e).2), blk_grown' h.2.1 hg (fun r e => (hrow r e).2), blk_grown' h.2.2 hg (fun r e => (hrow r e).2)⟩
  | 4 => trivial
  | _ + 5 => trivial
/-- what a step comes to, for the consumer. -/
structure RdE (w0 : World) (g : Nat) (A : Option Addr) (n c : Nat) (l : List UInt8) (s0 : RdS) (L : List CellF) (ts : List Nat) (t : Nat) (er : Int) (W' : World) : Prop where
  below : Below w0.heap.size w0 W'
  cl : CellsAt L W'
  st : ∃ s : RdS, Blk W' g 61 (rdC A n c s) ∧ s.pt = (stpS l s0 0).1.1.pt ∧ s.x = s0.x ∧ s.y = s0.y
  ok : er = 0 → RdI w0 g A n c l s0 L (ts ++ [t]) 0 W'
  no : er ≠ 0 → (rdAll l s0).2 = er
theorem rdi_call {w0 W : World} {g : Nat} {A : Option Addr} {n c : Nat} {l : List UInt8} {s0 : RdS} {L : List CellF} {ts : List Nat} {t f : Nat} {args : Array Value} (hI : RdI w0 g A n c l s0 L ts t W) (hts : ts ++ [t] <+: tagsS l s0) (hL : ∀ q ∈ L, q.2.1 ≠ 81 ∧ q.1 ≠ g)
    (hc : ∀ s v bl xs, runS l ts s0 [] = ((s, bl), 0) → RdW w0 g A n c { ahdS s t with v := v } xs W → xs.map (·.1) = bl → Calls Tryz.prog f args W (StpPost w0 g A n c l { ahdS s t with v := v } xs t W)) :
    Calls Tryz.prog f args W fun e W' => ∃ er, e = .returned (.int .i64 er) ∧ (∀ B, KeepsFrom B W W') ∧ RdE w0 g A n c l s0 L ts t er W' := by
  obtain ⟨⟨s, bl, v, xs, h1, hr, h3⟩, hcl⟩ := hI
  refine (hc s v bl xs h1 hr h3).mono ?_
  rintro e W' ⟨hret, ⟨v', xs', hr', hx'⟩, hkeep, hkf⟩
  have ev := stpS_v l (ahdS s t) v t
  rw [ev] at hret hr' hx'
  dsimp only at hret hr' hx'
  have hsn := runS_snoc l (t := t) h1
  refine ⟨_, hret, hkf, hr'.below, fun q hq => hkeep _ _ _ (hcl q hq) (hL q hq).1 (hL q hq).2, ⟨_, hr'.cell, ?_, ?_, ?_⟩, fun he => ?_, fun he => ?_⟩
  · show (stpS l (ahdS s t) t).1.1.pt = _
    rcases tags_pre l s0 hts with ⟨rfl, rfl⟩ | ⟨us, rfl, hus, ht, _⟩
    · simp only [runS, Prod.mk.injEq, and_true] at h1
      obtain ⟨rfl, rfl⟩ := h1
      rw [ahd_low s0 (by decide)]
    · rw [(stp_keep l (ahdS s t) t).2.2.1 ht, (ahd_keep s t).2.2.2.1, runS_pt0 l h1 hus]
  · show (stpS l (ahdS s t) t).1.1.x = _
    rw [(stp_keep l (ahdS s t) t).1, (ahd_keep s t).2.1, (runS_xy l _ h1).1]
  · show (stpS l (ahdS s t) t).1.1.y = _
    rw [(stp_keep l (ahdS s t) t).2.1, (ahd_keep s t).2.2.1, (runS_xy l _ h1).2]
  · rw [he] at hsn
    refine ⟨⟨_, _, v', xs', hsn, ?_, by rw [hx', h3]⟩, fun q hq => hkeep _ _ _ (hcl q hq) (hL q hq).1 (hL q hq).2⟩
    rw [ahd_low _ (by decide)]
    exact hr'
  · rw [rdAll_run]
    exact runS_pre l h1 hts he
end Go.Proofs.YtcojnigkgbmbmaaGreatDoor
