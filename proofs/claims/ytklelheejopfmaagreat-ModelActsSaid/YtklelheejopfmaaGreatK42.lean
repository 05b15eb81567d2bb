/- Actd -/
import Derived.Test.YtklelheejopfmaaGreatK41
namespace Go.Proofs.YtklelheejopfmaaGreat
open Go Go.RowKit Go.Maps
attribute [local go_sem] Oper.semAt_some
theorem law_acted (w : World) (bm bt tb lb rm rt base : Nat) (c : Cfg) (B : Int) (L : List Ent) (h : AS bm bt tb lb rm rt base c B L w) (hB0 : 0 ≤ B) (hB : B + 1048576 ≤ 2 ^ 45) (kd id n a b cc d e0 f g : Int) (hw : (Lit.int .i64 id).wf = true) :
    Calls Tryz.prog 7 #[.pointer (some ⟨bm, 0, none⟩), .pointer (some ⟨rm, 0, none⟩), .agg #[.int .i64 kd, .int .i64 id, .int .i64 n, .int .i64 a, .int .i64 b, .int .i64 cc, .int .i64 d, .int .i64 e0, .int .i64 f, .int .i64 g]] w (ActPost bm bt tb lb rm rt base c B w) := by
  by_cases h0 : kd = 0
  · subst h0; exact act_0 w bm bt tb lb rm rt base c B L h hB0 hB id n a b cc d e0 f g hw
  by_cases h1 : kd = 1
  · subst h1; exact act_1 w bm bt tb lb rm rt base c B L h hB0 hB id n a b cc d e0 f g hw
  by_cases h2 : kd = 2
  · subst h2; exact act_2 w bm bt tb lb rm rt base c B L h hB0 hB id n a b cc d e0 f g hw
  by_cases h3 : kd = 3
  · subst h3
    by_cases hn : 0 < n
    · by_cases hn2 : n < 1000
      · exact act_3c w bm bt tb lb rm rt base c B L h hB0 hB id n a b cc d e0 f g hw hn hn2
      · exact act_3b w bm bt tb lb rm rt base c B L h hB0 hB id n a b cc d e0 f g hw hn hn2
    · exact act_3a w bm bt tb lb rm rt base c B L h hB0 hB id n a b cc d e0 f g hw hn
  by_cases h4 : kd = 4
  · subst h4; exact act_4 w bm bt tb lb rm rt base c B L h hB0 hB id n a b cc d e0 f g hw
  by_cases h5 : kd = 5
  · subst h5; exact act_5 w bm bt tb lb rm rt base c B L h hB0 hB id n a b cc d e0 f g hw
  by_cases h6 : kd = 6
  · subst h6; exact act_6 w bm bt tb lb rm rt base c B L h hB0 hB id n a b cc d e0 f g hw
  by_cases h7 : kd = 7
  · subst h7; exact act_7 w bm bt tb lb rm rt base c B L h hB0 hB id n a b cc d e0 f g hw
  exact act_k w bm bt tb lb rm rt base c B L h hB0 hB kd id n a b cc d e0 f g hw h0 h1 h2 h3 h4 h5 h6 h7
theorem addr_addS (p : Addr) (i : Nat) (h : i ≠ 0) : p.add i = ⟨p.block, p.off + i, none⟩ := by unfold Addr.add; simp [h]
structure ActZ where
  kd : Int
  id : Int
  n : Int
  a : Int
  b : Int
  c : Int
  d : Int
  e : Int
  f : Int
  g : Int
/-- the row at A holds these acts, below base -/
def RowA (base : Nat) (W : World) (A : Option Addr) (os : List ActZ) : Prop := ∀ (i : Nat) (o : ActZ), os[i]? = some o → ∃ ad : Addr, A = some ad ∧ ad.block < base ∧ (Lit.int .i64 o.id).wf = true ∧
  W.cell? (ad.add (i * 10 + 0)) = some (.int .i64 o.kd) ∧
  W.cell? (ad.add (i * 10 + 1)) = some (.int .i64 o.id) ∧
  W.cell? (ad.add (i * 10 + 2)) = some (.int .i64 o.n) ∧
  W.cell? (ad.add (i * 10 + 3)) = some (.int .i64 o.a) ∧
  W.cell? (ad.add (i * 10 + 4)) = some (.int .i64 o.b) ∧
  W.cell? (ad.add (i * 10 + 5)) = some (.int .i64 o.c) ∧
  W.cell? (ad.add (i * 10 + 6)) = some (.int .i64 o.d) ∧
  W.cell? (ad.add (i * 10 + 7)) = some (.int .i64 o.e) ∧
  W.cell? (ad.add (i * 10 + 8)) = some (.int .i64 o.f) ∧
  W.cell? (ad.add (i * 10 + 9)) = some (.int .i64 o.g)
theorem RowA.below {base : Nat} {W W' : World} {A : Option Addr} {os : List ActZ} (h : RowA base W A os) (hb : Below base W W') : RowA base W' A os := fun i o ho => by
  obtain ⟨ad, e, hl, hw, h0, h1, h2, h3, h4, h5, h6, h7, h8, h9⟩ := h i o ho
  have hc : ∀ k, W'.cell? (ad.add k) = W.cell? (ad.add k) := fun k => hb.cell (by rw [addr_add_block]; exact hl)
  exact ⟨ad, e, hl, hw, (hc _).trans h0, (hc _).trans h1, (hc _).trans h2, (hc _).trans h3, (hc _).trans h4, (hc _).trans h5, (hc _).trans h6, (hc _).trans h7, (hc _).trans h8, (hc _).trans h9⟩
theorem RowA.at_ {base : Nat} {W : World} {A : Option Addr} {os : List ActZ} (h : RowA base W A os) {i : Nat} {o : ActZ} (ho : os[i]? = some o) : ∃ ad : Addr, A = some ad ∧ ad.block < base ∧ (Lit.int .i64 o.id).wf = true ∧
  W.cell? (ad.add (i * 10)) = some (.int .i64 o.kd) ∧
  W.cell? (⟨(ad.add (i * 10)).block, (ad.add (i * 10)).off + 1, none⟩) = some (.int .i64 o.id) ∧
  W.cell? (⟨(ad.add (i * 10)).block, (ad.add (i * 10)).off + 2, none⟩) = some (.int .i64 o.n) ∧
  W.cell? (⟨(ad.add (i * 10)).block, (ad.add (i * 10)).off + 3, none⟩) = some (.int .i64 o.a) ∧
  W.cell? (⟨(ad.add (i * 10)).block, (ad.add (i * 10)).off + 4, none⟩) = some (.int .i64 o.b) ∧
  W.cell? (⟨(ad.add (i * 10)).block, (ad.add (i * 10)).off + 5, none⟩) = some (.int .i64 o.c) ∧
  W.cell? (⟨(ad.add (i * 10)).block, (ad.add (i * 10)).off + 6, none⟩) = some (.int .i64 o.d) ∧
  W.cell? (⟨(ad.add (i * 10)).block, (ad.add (i * 10)).off + 7, none⟩) = some (.int .i64 o.e) ∧
  W.cell? (⟨(ad.add (i * 10)).block, (ad.add (i * 10)).off + 8, none⟩) = some (.int .i64 o.f) ∧
  W.cell? (⟨(ad.add (i * 10)).block, (ad.add (i * 10)).off + 9, none⟩) = some (.int .i64 o.g) := by
  obtain ⟨ad, e, hl, hw, h0, h1, h2, h3, h4, h5, h6, h7, h8, h9⟩ := h i o ho
  refine ⟨ad, e, hl, hw, h0, ?_, ?_, ?_, ?_, ?_, ?_, ?_, ?_, ?_⟩
  · rw [← addr_addS _ 1 (by decide), addr_add_add]; exact h1
  · rw [← addr_addS _ 2 (by decide), addr_add_add]; exact h2
  · rw [← addr_addS _ 3 (by decide), addr_add_add]; exact h3
  · rw [← addr_addS _ 4 (by decide), addr_add_add]; exact h4
  · rw [← addr_addS _ 5 (by decide), addr_add_add]; exact h5
  · rw [← addr_addS _ 6 (by decide), addr_add_add]; exact h6
  · rw [← addr_addS _ 7 (by decide), addr_add_add]; exact h7
  · rw [← addr_addS _ 8 (by decide), addr_add_add]; exact h8
  · rw [← addr_addS _ 9 (by decide), addr_add_add]; exact h9

structure LS (w : World) (bm bt tb lb rm rt : Nat) (c : Cfg) (i : Nat) (L : List Ent) (wr : World) : Prop where
  ass : AS bm bt tb lb rm rt w.heap.size c ((i : Int) * 1048576) L wr
  b : Below w.heap.size w wr
theorem LS.later {w wr wr' : World} {bm bt tb lb rm rt : Nat} {c : Cfg} {i : Nat} {L : List Ent} (h : LS w bm bt tb lb rm rt c i L wr) (hb : Below wr.heap.size wr wr') : LS w bm bt tb lb rm rt c i L wr' := ⟨h.ass.later hb, h.b.trans (hb.mono h.b.size)⟩
theorem acts_B (i : Nat) (h : i < 80) : 0 ≤ (i : Int) * 1048576 ∧ (i : Int) * 1048576 + 1048576 ≤ 2 ^ 45 := by omega
theorem acts_BI (i : Nat) : (i : Int) * 1048576 + 1048576 = ((i + 1 : Nat) : Int) * 1048576 := by push_cast; omega
theorem acts_w (i : Nat) (h : i < 80) : wrap64 ((i : Int) + 1) = ((i + 1 : Nat) : Int) := by rw [wrap64_id (by omega) (by omega)]; omega
theorem acts_i (i : Nat) : ¬ (i : Int) < 0 := by omega
theorem acts_live {bm bt tb lb rm rt base : Nat} {c : Cfg} {B : Int} {L : List Ent} {w : World} (h : AS bm bt tb lb rm rt base c B L w) : (liveK L).length ≤ 1000 := by
  have h1 := h.live; have h2 := h.cfg; unfold CfgOk at h2; omega
theorem LS.step {w wr wr' : World} {bm bt tb lb rm rt : Nat} {c : Cfg} {i : Nat} {L : List Ent} {e : Ending} (h : LS w bm bt tb lb rm rt c i L wr) (hp : ActPost bm bt tb lb rm rt w.heap.size c ((i : Int) * 1048576) wr e wr') : e = .returned (.bool true) ∧ ∃ L', LS w bm bt tb lb rm rt c (i + 1) L' wr' := by
  obtain ⟨he, ⟨L', h1⟩, h2⟩ := hp
  rw [acts_BI i] at h1
  exact ⟨he, L', h1, h.b.trans h2⟩
set_option maxRecDepth 100000 in
set_option maxHeartbeats 8000000 in
theorem acts_bad (w : World) (se fr qu ro sl : Int) (hc : ¬ CfgOk ⟨se, fr, qu, ro, sl⟩) (A : Option Addr) (n cp : Nat) :
    Calls Tryz.prog 3 #[.agg #[.int .i64 se, .int .i64 fr, .int .i64 qu, .int .i64 ro, .int .i64 sl], .slice A n cp] w fun e w' => e = .returned (.bool true) ∧ Below w.heap.size w w' := by
  have hb0 : Below w.heap.size w (w.alloc (.cells #[.int .i64 se, .int .i64 fr, .int .i64 qu, .int .i64 ro, .int .i64 sl] 23)) := (Below.refl _ _).alloc (Nat.le_refl _) _
  have HB0 := Lib.hid hb0
  have HX := Lib.hid (Blk.new w 23 #[.int .i64 se, .int .i64 fr, .int .i64 qu, .int .i64 ro, .int .i64 sl])
  have C1 := Lib.hid (fun W => mod_New_no W ⟨se, fr, qu, ro, sl⟩ hc)
  have C2 := Lib.hid (fun W => ref29_New_no W ⟨se, fr, qu, ro, sl⟩ hc)
  clear hb0 hc
  go_enter Tryz.func3, Tryz.ntmps3
  go_wp2_with (first
    | (go_at_call 4; refine (C1.out _).mono ?_; rintro e w1 ⟨rfl, hb1⟩; have hx := HX.out.below hb1 HX.out.lt; have x0 := hx.cell 0; have x1 := hx.cell 1; have x2 := hx.cell 2; have x3 := hx.cell 3; have x4 := hx.cell 4; have HB1 := Lib.hid (HB0.out.trans (hb1.mono HB0.out.size)); clear hb1 hx C1)
    | (go_at_call 5; refine (C2.out _).mono ?_; rintro e w2 ⟨rfl, hb2⟩; have HB2 := Lib.hid (HB1.out.trans (hb2.mono HB1.out.size)); clear hb2 C2)
    | (go_at_call 6; refine (law_awake _).mono ?_; rintro e w3 ⟨rfl, hb3⟩; have HB3 := Lib.hid (HB2.out.trans (hb3.mono HB2.out.size)); clear hb3))
  go_ret
  exact ⟨rfl, HB3.out⟩
set_option maxRecDepth 100000 in
set_option maxHeartbeats 8000000 in
theorem acts_many (w : World) (se fr qu ro sl : Int) (hc : CfgOk ⟨se, fr, qu, ro, sl⟩) (A : Option Addr) (n cp : Nat) (hn : 80 < n) :
    Calls Tryz.prog 3 #[.agg #[.int .i64 se, .int .i64 fr, .int .i64 qu, .int .i64 ro, .int .i64 sl], .slice A n cp] w fun e w' => e = .returned (.bool true) ∧ Below w.heap.size w w' := by
  have hb0 : Below w.heap.size w (w.alloc (.cells #[.int .i64 se, .int .i64 fr, .int .i64 qu, .int .i64 ro, .int .i64 sl] 23)) := (Below.refl _ _).alloc (Nat.le_refl _) _
  have HB0 := Lib.hid hb0
  have HX := Lib.hid (Blk.new w 23 #[.int .i64 se, .int .i64 fr, .int .i64 qu, .int .i64 ro, .int .i64 sl])
  have C1 := Lib.hid (fun W => mod_New_ok W ⟨se, fr, qu, ro, sl⟩ hc)
  have C2 := Lib.hid (fun W (h : w.heap.size ≤ W.heap.size) => ref29_New_ok W w.heap.size h ⟨se, fr, qu, ro, sl⟩ hc)
  have hnI : 80 < (n : Int) := by omega
  clear hb0 hc hn
  go_enter Tryz.func3, Tryz.ntmps3
  go_wp2_with (first
    | (go_at_call 4; refine (C1.out _).mono ?_; rintro e w1 ⟨bm, bt, tb, lb, rfl, hm1, hb1, q1, q2, q3⟩; have hx := HX.out.below hb1 HX.out.lt; have x0 := hx.cell 0; have x1 := hx.cell 1; have x2 := hx.cell 2; have x3 := hx.cell 3; have x4 := hx.cell 4; have HB1 := Lib.hid (HB0.out.trans (hb1.mono HB0.out.size)); have HM1 := Lib.hid hm1; have HQ := Lib.hid (And.intro (Nat.le_trans HB0.out.size q1) (And.intro (Nat.le_trans HB0.out.size q2) (Nat.le_trans HB0.out.size q3))); clear hb1 hm1 hx C1 q1 q2 q3)
    | (go_at_call 5; refine (C2.out _ HB1.out.size).mono ?_; rintro e w2 ⟨rm, rt, rfl, hr2, hb2⟩; have HS2 := Lib.hid (show LS w bm bt tb lb rm rt ⟨se, fr, qu, ro, sl⟩ 0 [] w2 from ⟨⟨by simpa using HM1.out.later hb2, hr2, fun x hx => (List.not_mem_nil hx).elim, HQ.out.1, HQ.out.2.1, HQ.out.2.2⟩, HB1.out.trans (hb2.mono HB1.out.size)⟩); clear hb2 hr2 C2 HM1 HQ x0 x1 x2 x3 x4)
    | (go_at_call 6; refine (law_awake _).mono ?_; rintro e w3 ⟨rfl, hb3⟩; have HS3 := Lib.hid (HS2.out.later hb3); clear hb3))
  go_ret
  exact ⟨rfl, HS3.out.b⟩
set_option maxRecDepth 100000 in
set_option maxHeartbeats 8000000 in
theorem acts_few (w : World) (se fr qu ro sl : Int) (hc : CfgOk ⟨se, fr, qu, ro, sl⟩) (A : Option Addr) (n cp : Nat) (os : List ActZ) (hl : os.length = n) (hR : RowA w.heap.size w A os) (hn : ¬ 80 < n) :
    Calls Tryz.prog 3 #[.agg #[.int .i64 se, .int .i64 fr, .int .i64 qu, .int .i64 ro, .int .i64 sl], .slice A n cp] w fun e w' => e = .returned (.bool true) ∧ Below w.heap.size w w' := by
  have hb0 : Below w.heap.size w (w.alloc (.cells #[.int .i64 se, .int .i64 fr, .int .i64 qu, .int .i64 ro, .int .i64 sl] 23)) := (Below.refl _ _).alloc (Nat.le_refl _) _
  have HB0 := Lib.hid hb0
  have HX := Lib.hid (Blk.new w 23 #[.int .i64 se, .int .i64 fr, .int .i64 qu, .int .i64 ro, .int .i64 sl])
  have C1 := Lib.hid (fun W => mod_New_ok W ⟨se, fr, qu, ro, sl⟩ hc)
  have C2 := Lib.hid (fun W (h : w.heap.size ≤ W.heap.size) => ref29_New_ok W w.heap.size h ⟨se, fr, qu, ro, sl⟩ hc)
  have HL := Lib.hid hl; have HR := Lib.hid hR; have HN := Lib.hid hn
  have hnI : ¬ 80 < (n : Int) := by omega
  have HC := Lib.hid hc
  clear hb0 hc hl hR hn
  go_enter Tryz.func3, Tryz.ntmps3
  go_wp2_with (first
    | (go_at_call 4; refine (C1.out _).mono ?_; rintro e w1 ⟨bm, bt, tb, lb, rfl, hm1, hb1, q1, q2, q3⟩; have hx := HX.out.below hb1 HX.out.lt; have x0 := hx.cell 0; have x1 := hx.cell 1; have x2 := hx.cell 2; have x3 := hx.cell 3; have x4 := hx.cell 4; have HB1 := Lib.hid (HB0.out.trans (hb1.mono HB0.out.size)); have HM1 := Lib.hid hm1; have HQ := Lib.hid (And.intro (Nat.le_trans HB0.out.size q1) (And.intro (Nat.le_trans HB0.out.size q2) (Nat.le_trans HB0.out.size q3))); clear hb1 hm1 hx C1 q1 q2 q3)
    | (go_at_call 5; refine (C2.out _ HB1.out.size).mono ?_; rintro e w2 ⟨rm, rt, rfl, hr2, hb2⟩; have HS2 := Lib.hid (show LS w bm bt tb lb rm rt ⟨se, fr, qu, ro, sl⟩ 0 [] w2 from ⟨⟨by simpa using HM1.out.later hb2, hr2, fun x hx => (List.not_mem_nil hx).elim, HQ.out.1, HQ.out.2.1, HQ.out.2.2⟩, HB1.out.trans (hb2.mono HB1.out.size)⟩); clear hb2 hr2 C2 HM1 HQ x0 x1 x2 x3 x4))
  go_loopg [9] n (fun gk i wr => ∃ (j : Nat) (L : List Ent), j + gk = n ∧ i = .int .i64 (j : Int) ∧ Hid (LS w bm bt tb lb rm rt ⟨se, fr, qu, ro, sl⟩ j L wr))
  case atStart => exact ⟨0, [], by omega, rfl, HS2⟩
  case round =>
    obtain ⟨j, L, hj, rfl, HW⟩ := hrel
    cases gk with
    | zero =>
      obtain rfl : j = n := by omega
      have hlt : ¬ ((j : Int) < (j : Int)) := by omega
      go_wp2_with (go_at_call 6; refine (law_awake _).mono ?_; rintro e w3 ⟨rfl, hb3⟩; have HS3 := Lib.hid (HW.out.later hb3); clear hb3)
      go_ret
      exact ⟨rfl, HS3.out.b⟩
    | succ gk =>
      have hlt : ((j : Int) < (n : Int)) := by omega
      have hj80 : j < 80 := by have := HN.out; omega
      have hw7 := acts_w j hj80
      have HBB := Lib.hid (acts_B j hj80)
      have hi0 := acts_i j
      have hjl : j < os.length := by rw [HL.out]; omega
      have hoj : os[j]? = some os[j] := List.getElem?_eq_getElem hjl
      generalize os[j] = o at hoj
      have HOJ := Lib.hid hoj
      obtain ⟨ad, rfl, hadl, hwf, q0, q1, q2, q3, q4, q5, q6, q7, q8, q9⟩ := (HR.out.below HW.out.b).at_ hoj
      have HAD := Lib.hid hadl
      have HWF := Lib.hid hwf
      have HJ := Lib.hid hj
      clear hoj hjl hj80 hadl hwf hj
      go_wp2_with (first
        | (go_at_call 7; refine (law_acted _ bm bt tb lb rm rt w.heap.size ⟨se, fr, qu, ro, sl⟩ _ L HW.out.ass HBB.out.1 HBB.out.2 o.kd o.id o.n o.a o.b o.c o.d o.e o.f o.g HWF.out).mono ?_; intro e w1 hp; obtain ⟨rfl, L1, h1⟩ := HW.out.step hp; have HS := Lib.hid h1; obtain ⟨ad', e', _, _, _, p1, _⟩ := (HR.out.below h1.b).at_ HOJ.out; cases e'; obtain ⟨y0, y1, y2, y3, y4, y5, y6, hst⟩ := statF_seen L1 o.id; have M1 := Lib.hid (fun W (h : LS w bm bt tb lb rm rt ⟨se, fr, qu, ro, sl⟩ (j + 1) L1 W) => mod_Status W bm bt tb lb _ _ L1 h.ass.m o.id HWF.out); have R1 := Lib.hid (fun W (h : LS w bm bt tb lb rm rt ⟨se, fr, qu, ro, sl⟩ (j + 1) L1 W) => ref29_Status W rm rt _ _ L1 h.ass.r o.id HWF.out); rw [hst] at M1 R1; generalize (statF L1 o.id).2 = z at M1 R1; have HLV := Lib.hid (acts_live h1.ass); clear hp h1 hst q0 q1 q2 q3 q4 q5 q6 q7 q8 q9)
        | (go_at_call 8; refine (M1.out _ HS.out).mono ?_; rintro e w2 ⟨rfl, hb2⟩; have hsa := (HS.out.later hb2).later (Below.alloc (Below.refl _ _) (Nat.le_refl _) (.cells #[.int .i64 y0, .int .i64 y1, .int .i64 y2, .int .i64 y3, .int .i64 y4, .int .i64 y5, .int .i64 y6] 35)); obtain ⟨ad', e', _, _, _, p1, _⟩ := (HR.out.below hsa.b).at_ HOJ.out; cases e'; have HSA := Lib.hid hsa; have B10 := Lib.hid (Blk.new w2 35 #[.int .i64 y0, .int .i64 y1, .int .i64 y2, .int .i64 y3, .int .i64 y4, .int .i64 y5, .int .i64 y6]); clear hb2 hsa M1 HS)
        | (go_at_call 9; refine (R1.out _ HSA.out).mono ?_; rintro e w3 ⟨rfl, hb3⟩; have HSB := Lib.hid ((HSA.out.later hb3).later (Below.alloc (Below.refl _ _) (Nat.le_refl _) (.cells #[.int .i64 y0, .int .i64 y1, .int .i64 y2, .int .i64 y3, .int .i64 y4, .int .i64 y5, .int .i64 y6] 35))); have B10' := Lib.hid ((B10.out.below hb3 B10.out.lt).alloc (.cells #[.int .i64 y0, .int .i64 y1, .int .i64 y2, .int .i64 y3, .int .i64 y4, .int .i64 y5, .int .i64 y6] 35)); have B12 := Lib.hid (Blk.new w3 35 #[.int .i64 y0, .int .i64 y1, .int .i64 y2, .int .i64 y3, .int .i64 y4, .int .i64 y5, .int .i64 y6]); clear hb3 R1 HSA B10 p1)
        | (go_at_call 10; refine (mod_Live _ bm bt tb lb _ _ L1 HSB.out.ass.m).mono ?_; rintro e w4 ⟨v, rfl, hv4, hb4⟩; have hsc := HSB.out.later hb4; have hb := HSB.out.b.size; have V4 := Lib.hid (show IRow w4 (w3.alloc (.cells #[.int .i64 y0, .int .i64 y1, .int .i64 y2, .int .i64 y3, .int .i64 y4, .int .i64 y5, .int .i64 y6] 35)).heap.size v (liveK L1) from hv4); generalize (w3.alloc (.cells #[.int .i64 y0, .int .i64 y1, .int .i64 y2, .int .i64 y3, .int .i64 y4, .int .i64 y5, .int .i64 y6] 35)).heap.size = b4 at V4 hb; have HB4 := Lib.hid hb; have h10 := B10'.out.below hb4 B10'.out.lt; have h12 := B12.out.below hb4 B12.out.lt; have g0 := h10.cell 0; have k0 := h12.cell 0; have g1 := h10.cell 1; have k1 := h12.cell 1; have g2 := h10.cell 2; have k2 := h12.cell 2; have g3 := h10.cell 3; have k3 := h12.cell 3; have g4 := h10.cell 4; have k4 := h12.cell 4; have g5 := h10.cell 5; have k5 := h12.cell 5; have g6 := h10.cell 6; have k6 := h12.cell 6; simp only [List.getElem?_toArray, List.getElem?_cons_zero, List.getElem?_cons_succ] at g0 k0 g1 k1 g2 k2 g3 k3 g4 k4 g5 k5 g6 k6; obtain ⟨A4, c4, rfl, hs4⟩ := V4.out.shape; obtain ⟨vv, hrb, _⟩ := hsc.ass.r; have x5 := hrb.cell 5; have HSC := Lib.hid hsc; clear hv4 hb4 hsc hb h10 h12 hs4 hrb HSB B10' B12)
        | (go_at_call 12; obtain ⟨vv, _, _, htt, _⟩ := HSC.out.ass.r; refine (ref26_Live _ rt w.heap.size se L1 htt).mono ?_; rintro e w5 ⟨v2, rfl, hv5, hb5⟩; have HSD := Lib.hid (HSC.out.later hb5); have V5 := Lib.hid (V4.out.below hb5); have W5 := Lib.hid hv5; obtain ⟨A5, c5, rfl, hs5⟩ := hv5.shape; clear hv5 hb5 hs5 htt HSC V4)
        | (go_at_call 11; obtain ⟨a1, d1, e1, s1⟩ := V5.out.shape; obtain ⟨a2, d2, e2, s2⟩ := W5.out.shape; cases e1; cases e2; refine (kit_SameInts _ _ _ (liveK L1) _ _ s1 s2 HLV.out).mono ?_; rintro e w6 ⟨rfl, hb6⟩; have HSE := Lib.hid (HSD.out.later hb6); have V6 := Lib.hid (V5.out.below hb6); clear hb6 s1 s2 HSD V5 W5)
        | (go_at_call 13; refine (mod_Free _ bm bt tb lb _ _ L1 HSE.out.ass.m).mono ?_; rintro e w7 ⟨rfl, hb7⟩; have HSF := Lib.hid (HSE.out.later hb7); have V7 := Lib.hid (V6.out.below hb7); clear hb7 HSE V6)
        | (go_at_call 14; refine (ref29_Free _ rm rt _ _ L1 HSF.out.ass.r HSF.out.ass.kn HC.out).mono ?_; rintro e w8 ⟨rfl, hb8⟩; have HSG := Lib.hid (HSF.out.later hb8); have V8 := Lib.hid (V7.out.below hb8); clear hb8 HSF V7)
        | (go_at_call 15; refine (kit_OverInts _ b4 _ (liveK L1) V8.out HLV.out).mono ?_; rintro e w9 ⟨⟨u, rfl⟩, _, ht⟩; have hov := HSG.out.ass.over V8.out ht HB4.out; have HSH := Lib.hid (show LS w bm bt tb lb rm rt ⟨se, fr, qu, ro, sl⟩ (j + 1) L1 w9 from ⟨hov.1, HSG.out.b.trans hov.2⟩); clear ht hov HSG V8))
      go_roundg gk
      case measure => omega
      case rel => exact ⟨j + 1, L1, by have := HJ.out; omega, rfl, HSH⟩
theorem law_ModelActs (w : World) (se fr qu ro sl : Int) (A : Option Addr) (n cp : Nat) (os : List ActZ) (hl : os.length = n) (hR : RowA w.heap.size w A os) :
    Calls Tryz.prog 3 #[.agg #[.int .i64 se, .int .i64 fr, .int .i64 qu, .int .i64 ro, .int .i64 sl], .slice A n cp] w fun e w' => e = .returned (.bool true) ∧ Below w.heap.size w w' := by
  by_cases hc : CfgOk ⟨se, fr, qu, ro, sl⟩
  · by_cases hn : 80 < n
    · exact acts_many w se fr qu ro sl hc A n cp hn
    · exact acts_few w se fr qu ro sl hc A n cp os hl hR hn
  · exact acts_bad w se fr qu ro sl hc A n cp
end Go.Proofs.YtklelheejopfmaaGreat
