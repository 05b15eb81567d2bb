/- layer 29: ModelRoom's walk. -/
import Derived.Test.YtklelheejopfmaaTame
namespace Go.Proofs.Ytklelheejopfmaa
open Go Go.RowKit Go.Maps
attribute [local go_sem] Oper.semAt_some
/-- what is known behind some feeds and reads -/
def roomK (room came gone : Int) : Kn := ⟨came, false, 0, 0, 8 * came - gone, room - came + gone / 8, 0, 0, gone⟩
theorem room_new (room : Int) : newKn room = roomK room 0 0 := by
  unfold newKn roomK
  simp
theorem room_feed {room came gone n : Int} (hn : 0 ≤ n) : onL [(0, roomK room came gone)] 1 (fun k => feedF k n) = (min n (room - came + gone / 8), 0, [(0, roomK room (came + min n (room - came + gone / 8)) gone)]) := by
  have hf : feedF (roomK room came gone) n = (min n (room - came + gone / 8), 0, roomK room (came + min n (room - came + gone / 8)) gone) := by
    unfold feedF
    rw [if_neg (by omega), if_neg (by unfold roomK; simp)]
    obtain ⟨t, ht⟩ : ∃ t, min n (room - came + gone / 8) = t := ⟨_, rfl⟩
    have ht2 : min n (roomK room came gone).free = t := ht
    rw [ht, ht2]
    have e1 : fedK (roomK room came gone) t = roomK room (came + t) gone := by
      show Kn.mk (came + t) false 0 0 (8 * came - gone + 8 * t) (room - came + gone / 8 - t) 0 0 gone = Kn.mk (came + t) false 0 0 (8 * (came + t) - gone) (room - (came + t) + gone / 8) 0 0 gone
      have a1 : 8 * came - gone + 8 * t = 8 * (came + t) - gone := by omega
      have a2 : room - came + gone / 8 - t = room - (came + t) + gone / 8 := by omega
      rw [a1, a2]
    rw [e1]
  rw [onL_ok (show atL [(0, roomK room came gone)] 1 = some (0, roomK room came gone) from rfl) (by rw [hf])]
  rw [hf]
  rfl
theorem room_see {c : Cfg} (hc : CfgOk c) {came gone g2 : Int} (h0 : 0 ≤ gone) (h1 : gone ≤ g2) (h2 : g2 ≤ 8 * came) (h3 : came ≤ 2 ^ 40) (left free : Int) (hl : left = 8 * came - g2) (hf : free = c.room - came + g2 / 8) :
    (onL [(0, roomK c.room came gone)] 1 (seeF c ⟨0, false, 0, 0, left, free, 0, 0, g2⟩)).2 = (0, [(0, roomK c.room came g2)]) := by
  have hr := hc.2.2.2.2.2.2.2.1
  have hr0 := hc.2.2.2.2.2.2.1
  have hq := hc.2.2.2.2.1
  have hs := hc.2.2.2.2.2.2.2.2.1
  subst hl hf
  have h4 : SeeOk c came 0 0 gone 0 0 (8 * came - g2) (c.room - came + g2 / 8) 0 0 g2 := by
    have e1 : wrap64 (8 * came) = 8 * came := wrap64_id (by omega) (by omega)
    have e2 : wrap64 (8 * came - g2) = 8 * came - g2 := wrap64_id (by omega) (by omega)
    have e3 : g2.tdiv 8 = g2 / 8 := tdiv8 (by omega)
    have e4 : wrap64 (g2 / 8) = g2 / 8 := wrap64_id (by omega) (by omega)
    have e5 : wrap64 (c.room - came) = c.room - came := wrap64_id (by omega) (by omega)
    have e6 : wrap64 (c.room - came + g2 / 8) = c.room - came + g2 / 8 := wrap64_id (by omega) (by omega)
    unfold SeeOk
    rw [e1, e2, e3, e4, e5, e6]
    exact ⟨⟨rfl, rfl⟩, ⟨h1, h2⟩, ⟨by omega, by omega⟩, ⟨by omega, by omega⟩, by omega, by omega⟩
  exact see_yes (k := roomK c.room came gone) (s := ⟨0, false, 0, 0, 8 * came - g2, c.room - came + g2 / 8, 0, 0, g2⟩) h4
theorem set5_blk {w : World} {b : Nat} {t : TypeId} {c0 c1 c2 c3 c4 : Value} (h : Blk w b t #[c0, c1, c2, c3, c4]) (v0 v1 v2 v3 v4 : Value) : Blk (((((w.setCell ⟨b, 0, none⟩ v0).setCell ⟨b, 1, none⟩ v1).setCell ⟨b, 2, none⟩ v2).setCell ⟨b, 3, none⟩ v3).setCell ⟨b, 4, none⟩ v4) b t #[v0, v1, v2, v3, v4] := by
  have h1 := (((((h.set_ 0 v0).set_ 1 v1).set_ 2 v2).set_ 3 v3).set_ 4 v4)
  simpa only [List.setIfInBounds_toArray, List.set_cons_zero, List.set_cons_succ] using h1
theorem set5_below {B : Nat} {a w : World} {b : Nat} (h : Below B a w) (hb : B ≤ b) (v0 v1 v2 v3 v4 : Value) : Below B a (((((w.setCell ⟨b, 0, none⟩ v0).setCell ⟨b, 1, none⟩ v1).setCell ⟨b, 2, none⟩ v2).setCell ⟨b, 3, none⟩ v3).setCell ⟨b, 4, none⟩ v4) :=
  (((((h.setCell (p := ⟨b, 0, none⟩) hb v0).setCell (p := ⟨b, 1, none⟩) hb v1).setCell (p := ⟨b, 2, none⟩) hb v2).setCell (p := ⟨b, 3, none⟩) hb v3).setCell (p := ⟨b, 4, none⟩) hb v4)
theorem open_first {c : Cfg} (hc : CfgOk c) : openF c [] = (1, 0, [(0, newKn c.room)]) := by
  unfold openF
  have h1 := hc.1
  have h2 := hc.2.2.2.2.2.1
  rw [if_neg (by show ¬ (((0 : Nat) : Int) + 1) * c.quota > c.frames; simp; omega), if_neg (by show ¬ (c.sess - ((0 : Nat) : Int) = 0 ∨ (0 : Nat) = 2147483647); simp; omega)]
  rfl
theorem room_a1 {room came gone nn rm t cm2 : Int} {i : Nat} (h1 : 1024 ≤ room) (h2 : room ≤ 1048576) (h3 : 0 ≤ gone) (h4 : gone ≤ 8 * came) (h5 : came ≤ 2000 * (i : Int)) (h6 : i < 60) (h7 : 0 ≤ nn) (h8 : nn < 2000) (h9 : room - came + gone / 8 = rm) (h10 : 0 ≤ rm) (h11 : min nn rm = t) (h12 : came + t = cm2) :
    wrap64 (room - came) = room - came ∧ wrap64 (gone / 8) = gone / 8 ∧ wrap64 (room - came + gone / 8) = rm ∧ wrap64 (came + t) = cm2 ∧ wrap64 (8 * cm2) = 8 * cm2 ∧ cm2 ≤ 2000 * ((i + 1 : Nat) : Int) ∧ cm2 ≤ 120000 ∧ gone ≤ 8 * cm2 ∧ 0 ≤ room - cm2 + gone / 8 ∧ 0 ≤ cm2 := by
  have a0 : 0 ≤ came := by omega
  have a1 : came ≤ 120000 := by omega
  have a2 : 0 ≤ t ∧ t ≤ nn ∧ t ≤ rm := by omega
  clear h11
  have a3 : 0 ≤ gone / 8 ∧ gone / 8 ≤ 1000000 := by omega
  refine ⟨wrap64_id (by omega) (by omega), wrap64_id (by omega) (by omega), ?_, ?_, wrap64_id (by omega) (by omega), by push_cast; omega, by omega, by omega, by omega, by omega⟩
  · rw [h9]; exact wrap64_id (by omega) (by omega)
  · rw [h12]; exact wrap64_id (by omega) (by omega)
theorem room_a2 {room cm2 gone gn2 lf fe : Int} (h1 : 1024 ≤ room) (h2 : room ≤ 1048576) (h3 : 0 ≤ gone) (h4 : gone ≤ gn2) (h5 : gn2 ≤ 8 * cm2) (h6 : cm2 ≤ 120000) (h7 : 0 ≤ room - cm2 + gone / 8) (h8 : 8 * cm2 - gn2 = lf) (h9 : room - cm2 + gn2 / 8 = fe) :
    gn2.tdiv 8 = gn2 / 8 ∧ wrap64 (8 * cm2 - gn2) = lf ∧ wrap64 (room - cm2) = room - cm2 ∧ wrap64 (gn2 / 8) = gn2 / 8 ∧ wrap64 (room - cm2 + gn2 / 8) = fe ∧ ¬ room < fe ∧ ¬ fe < 0 := by
  have a3 : 0 ≤ gn2 / 8 ∧ gn2 / 8 ≤ 1000000 := by omega
  refine ⟨tdiv8 (by omega), ?_, wrap64_id (by omega) (by omega), wrap64_id (by omega) (by omega), ?_, by omega, by omega⟩
  · rw [h8]; exact wrap64_id (by omega) (by omega)
  · rw [h9]; exact wrap64_id (by omega) (by omega)
theorem room_a3 {cm2 gone rr gn2 : Int} (h3 : 0 ≤ gone) (h4 : gone ≤ 8 * cm2) (h6 : cm2 ≤ 120000) (h7 : 0 ≤ rr) (h8 : rr < 8 * cm2 - gone + 1) (h9 : gone + rr = gn2) :
    wrap64 (8 * cm2 - gone) = 8 * cm2 - gone ∧ wrap64 (8 * cm2 - gone + 1) = 8 * cm2 - gone + 1 ∧ wrap64 (gone + rr) = gn2 ∧ gone ≤ gn2 ∧ gn2 ≤ 8 * cm2 := by
  refine ⟨wrap64_id (by omega) (by omega), wrap64_id (by omega) (by omega), ?_, by omega, by omega⟩
  rw [h9]; exact wrap64_id (by omega) (by omega)
theorem room_B (i : Nat) (h : i < 60) : (i : Int) * 1048576 + 1048576 ≤ 2 ^ 45 := by omega
theorem room_BI (i : Nat) : (i : Int) * 1048576 + 1048576 = ((i + 1 : Nat) : Int) * 1048576 := by push_cast; omega
theorem room_w7 (i : Nat) (h : i < 60) : wrap64 ((i : Int) + 1) = ((i + 1 : Nat) : Int) := by rw [wrap64_id (by omega) (by omega)]; omega
theorem room_pos {cm2 gone : Int} (h1 : 0 ≤ gone) (h2 : gone ≤ 8 * cm2) (h3 : cm2 ≤ 120000) : 0 < 8 * cm2 - gone + 1 ∧ 8 * cm2 - gone + 1 ≤ 4611686018427387904 := by omega
theorem room_mod (y m : Int) (h : 0 < m) : 0 ≤ y % m ∧ y % m < m := ⟨Int.emod_nonneg _ (by omega), Int.emod_lt_of_pos _ h⟩
theorem room_i (i : Nat) : ¬ (i : Int) < 0 := by omega
theorem see_any (w : World) (bm bt tb lb : Nat) (c : Cfg) (B : Int) (L : List Ent) (h : MAt w bm bt tb lb c B L) (s : Kn) (r : Int) (L2 : List Ent) (hc : (onL L 1 (seeF c s)).2 = (r, L2)) :
    Calls Try.prog 7 #[.pointer (some ⟨bm, 0, none⟩), .int .i64 1, s.seen] w fun e w' => e = .returned (.int .i64 r) ∧ MAt w' bm bt tb lb c B L2 ∧ Only [lb] w w' := by
  have h1 := mod_See w bm bt tb lb c B L h 1 one_wf s
  rw [hc] at h1
  exact h1
def RoomW (w : World) (bm bt tb lb : Nat) (c : Cfg) (B : Int) (L : List Ent) (A1 A2 : Option Addr) (l1 l2 : List Int) (w' : World) : Prop :=
  MAt w' bm bt tb lb c B L ∧ Below w.heap.size w w' ∧ w.heap.size < bt ∧ w.heap.size < tb ∧ w.heap.size < lb ∧ Sl w' A1 (l1.map intV) ∧ Sl w' A2 (l2.map intV) ∧ Blk w' w.heap.size 36 #[.int .i64 c.sess, .int .i64 c.frames, .int .i64 c.quota, .int .i64 c.room, .int .i64 c.slots]
theorem Sl.only {w w' : World} {A : Option Addr} {xs : List Value} {bs : List Nat} (h : Sl w A xs) (ho : Only bs w w') (hn : ∀ ad, A = some ad → xs ≠ [] → ad.block ∉ bs) : Sl w' A xs := fun k v hk => by
  obtain ⟨ad, rfl, hl, hc⟩ := h k v hk
  have hne : xs ≠ [] := fun e => by subst e; simp at hk
  refine ⟨ad, rfl, Nat.lt_of_lt_of_le hl ho.size, ?_⟩
  rw [World.cell?_of_block (ho.block (ad.add k).block (by rw [addr_add_block]; exact hl) (by rw [addr_add_block]; exact hn ad rfl hne))]
  exact hc
theorem RoomW.step {w w1 w2 : World} {bm bt tb lb : Nat} {c : Cfg} {B B2 : Int} {L L2 : List Ent} {A1 A2 : Option Addr} {l1 l2 : List Int} (h : RoomW w bm bt tb lb c B L A1 A2 l1 l2 w1) (hA1 : ∀ ad, A1 = some ad → l1 ≠ [] → ad.block < w.heap.size) (hA2 : ∀ ad, A2 = some ad → l2 ≠ [] → ad.block < w.heap.size)
    (hm : MAt w2 bm bt tb lb c B2 L2) (ho : Only [bt, tb, lb] w1 w2) : RoomW w bm bt tb lb c B2 L2 A1 A2 l1 l2 w2 := by
  obtain ⟨h1, h2, h3, h4, h5, h6, h7, h8⟩ := h
  exact ⟨hm, h2.trans (ho.below h2.size (by intro k hk; simp at hk; omega)), h3, h4, h5, h6.only ho (fun ad e hx => by have := hA1 ad e (by simpa using hx); simp; omega), h7.only ho (fun ad e hx => by have := hA2 ad e (by simpa using hx); simp; omega), ho.blk h8 (by simp; omega)⟩
theorem RoomW.later {w w1 w2 : World} {bm bt tb lb : Nat} {c : Cfg} {B : Int} {L : List Ent} {A1 A2 : Option Addr} {l1 l2 : List Int} (h : RoomW w bm bt tb lb c B L A1 A2 l1 l2 w1) (hb : Below w1.heap.size w1 w2) : RoomW w bm bt tb lb c B L A1 A2 l1 l2 w2 := by
  obtain ⟨h1, h2, h3, h4, h5, h6, h7, h8⟩ := h
  exact ⟨h1.later hb, h2.trans (hb.mono h2.size), h3, h4, h5, h6.below hb, h7.below hb, h8.below hb h8.lt⟩
/-- a fact that the walk's tactics do not take apart -/
def Lock (p : Prop) : Prop := ∀ q : Prop, (p → q) → q
theorem Lock.mk {p : Prop} (h : p) : Lock p := fun _ k => k h
theorem Lock.out {p : Prop} (h : Lock p) : p := h p id
def numOf : Value → Int | .int _ a => a | _ => 0
set_option maxRecDepth 100000 in
set_option maxHeartbeats 8000000 in
theorem law_ModelRoom (w : World) (se fr qu ro sl : Int) (A1 A2 : Option Addr) (n1 n2 c1 c2 : Nat) (l1 l2 : List Int) (h1 : Sl w A1 (l1.map intV)) (h2 : Sl w A2 (l2.map intV)) (hn1 : l1.length = n1) (hn2 : l2.length = n2) (hm1 : n1 ≤ maxLen) (hm2 : n2 ≤ maxLen) :
    Calls Try.prog 4 #[.agg #[.int .i64 se, .int .i64 fr, .int .i64 qu, .int .i64 ro, .int .i64 sl], .slice A1 n1 c1, .slice A2 n2 c2] w fun e w' => e = .returned (.bool true) ∧ Below w.heap.size w w' := by
  have hbx : Below w.heap.size w (w.alloc (.cells #[.int .i64 se, .int .i64 fr, .int .i64 qu, .int .i64 ro, .int .i64 sl] 36)) := (Below.refl _ _).alloc (Nat.le_refl _) _
  have HBX := Lib.hid hbx
  have HX := Lib.hid (Blk.new w 36 #[.int .i64 se, .int .i64 fr, .int .i64 qu, .int .i64 ro, .int .i64 sl])
  have HS1 := Lib.hid h1; have HS2 := Lib.hid h2
  have CK := Lib.hid (fun W => law_ModelKnown W)
  have CT := Lib.hid (fun W => law_tame W se fr qu ro sl)
  have CN := Lib.hid (fun W (c : Cfg) (hc : CfgOk c) => mod_New_ok W c hc)
  have HN1 := Lib.hid hn1; have HN2 := Lib.hid hn2
  have HA1 := Lib.hid (show ∀ ad, A1 = some ad → l1 ≠ [] → ad.block < w.heap.size from fun ad e hne => by subst e; obtain ⟨ad', e', hl⟩ := h1.len (by simpa using hne); cases e'; exact hl)
  have HA2 := Lib.hid (show ∀ ad, A2 = some ad → l2 ≠ [] → ad.block < w.heap.size from fun ad e hne => by subst e; obtain ⟨ad', e', hl⟩ := h2.len (by simpa using hne); cases e'; exact hl)
  clear h1 h2 hbx hn1 hn2 hm1 hm2
  by_cases hbig : 60 < n1
  · have hbigI : 60 < (n1 : Int) := by omega
    clear hbig
    go_enter Try.func4, Try.ntmps4
    go_wp2_with (first
      | (go_at_call 3; refine (CK.out _).mono ?_; rintro e w1 ⟨rfl, hb1⟩; have hx := HX.out.below hb1 HX.out.lt; have x0 := hx.cell 0; have x1 := hx.cell 1; have x2 := hx.cell 2; have x3 := hx.cell 3; have x4 := hx.cell 4; have HX1 := Lib.hid hx; have HB1 := Lib.hid (HBX.out.trans (hb1.mono HBX.out.size)); clear hb1 hx CK)
      | (go_at_call 16; refine (CT.out _).mono ?_; rintro e w2 ⟨c, hc, rfl, hb2⟩; have HC := Lib.hid hc; have hx := HX1.out.below hb2 HX1.out.lt; have y0 := hx.cell 0; have y1 := hx.cell 1; have y2 := hx.cell 2; have y3 := hx.cell 3; have y4 := hx.cell 4; have g0 := hx.frozen 0; have g1 := hx.frozen 1; have g2 := hx.frozen 2; have g3 := hx.frozen 3; have g4 := hx.frozen 4; have HX2 := Lib.hid hx; have HB2 := Lib.hid (HB1.out.trans (hb2.mono HB1.out.size)); have HX3 := (fun (_ : True) => set5_blk hx (.int .i64 c.sess) (.int .i64 c.frames) (.int .i64 c.quota) (.int .i64 c.room) (.int .i64 c.slots)); have HB3 := (fun (_ : True) => set5_below (b := w.heap.size) HB2.out (Nat.le_refl _) (.int .i64 c.sess) (.int .i64 c.frames) (.int .i64 c.quota) (.int .i64 c.room) (.int .i64 c.slots)); have HGT := Lib.hid hx.lt; clear hb2 hx hc CT)
      | (go_at_call 17; refine (CN.out _ c HC.out).mono ?_; rintro e w3 ⟨bm, bt, tb, lb, rfl, hm3, hb3, q1, q2, q3⟩; have HW3 := Lib.hid (show RoomW w bm bt tb lb c 0 [] A1 A2 l1 l2 w3 from ⟨hm3, (HB3 trivial).trans (hb3.mono (HB3 trivial).size), Nat.lt_of_lt_of_le (by have h := HGT.out; simpa using h) q1, Nat.lt_of_lt_of_le (by have h := HGT.out; simpa using h) q2, Nat.lt_of_lt_of_le (by have h := HGT.out; simpa using h) q3, (HS1.out.below (HB3 trivial)).below hb3, (HS2.out.below (HB3 trivial)).below hb3, (HX3 trivial).below hb3 (HX3 trivial).lt⟩); clear hm3 hb3 q1 q2 q3 CN y0 y1 y2 y3 y4 g0 g1 g2 g3 g4 HX3 HB3 HX2 HB2 HX1 HB1 HBX HX HGT x0 x1 x2 x3 x4 HS1 HS2)
      | (go_at_call 18; have h := mod_Open _ bm bt tb lb c 0 (by decide) [] HW3.out.1; rw [open_first HC.out] at h; refine h.mono ?_; clear h; rintro e w4 ⟨rfl, hm4, ho4⟩; have HW4 := Lib.hid (HW3.out.step HA1.out HA2.out hm4 ho4); clear hm4 ho4))
    go_ret
    exact ⟨rfl, HW4.out.2.1⟩
  have hbigI : ¬ 60 < (n1 : Int) := by omega
  clear hbig
  go_enter Try.func4, Try.ntmps4
  go_wp2_with (first
    | (go_at_call 3; refine (CK.out _).mono ?_; rintro e w1 ⟨rfl, hb1⟩; have hx := HX.out.below hb1 HX.out.lt; have x0 := hx.cell 0; have x1 := hx.cell 1; have x2 := hx.cell 2; have x3 := hx.cell 3; have x4 := hx.cell 4; have HX1 := Lib.hid hx; have HB1 := Lib.hid (HBX.out.trans (hb1.mono HBX.out.size)); clear hb1 hx CK)
    | (go_at_call 16; refine (CT.out _).mono ?_; rintro e w2 ⟨c, hc, rfl, hb2⟩; have HC := Lib.hid hc; have hx := HX1.out.below hb2 HX1.out.lt; have y0 := hx.cell 0; have y1 := hx.cell 1; have y2 := hx.cell 2; have y3 := hx.cell 3; have y4 := hx.cell 4; have g0 := hx.frozen 0; have g1 := hx.frozen 1; have g2 := hx.frozen 2; have g3 := hx.frozen 3; have g4 := hx.frozen 4; have HX2 := Lib.hid hx; have HB2 := Lib.hid (HB1.out.trans (hb2.mono HB1.out.size)); have HX3 := (fun (_ : True) => set5_blk hx (.int .i64 c.sess) (.int .i64 c.frames) (.int .i64 c.quota) (.int .i64 c.room) (.int .i64 c.slots)); have HB3 := (fun (_ : True) => set5_below (b := w.heap.size) HB2.out (Nat.le_refl _) (.int .i64 c.sess) (.int .i64 c.frames) (.int .i64 c.quota) (.int .i64 c.room) (.int .i64 c.slots)); have HGT := Lib.hid hx.lt; clear hb2 hx hc CT)
    | (go_at_call 17; refine (CN.out _ c HC.out).mono ?_; rintro e w3 ⟨bm, bt, tb, lb, rfl, hm3, hb3, q1, q2, q3⟩; have HW3 := Lib.hid (show RoomW w bm bt tb lb c 0 [] A1 A2 l1 l2 w3 from ⟨hm3, (HB3 trivial).trans (hb3.mono (HB3 trivial).size), Nat.lt_of_lt_of_le (by have h := HGT.out; simpa using h) q1, Nat.lt_of_lt_of_le (by have h := HGT.out; simpa using h) q2, Nat.lt_of_lt_of_le (by have h := HGT.out; simpa using h) q3, (HS1.out.below (HB3 trivial)).below hb3, (HS2.out.below (HB3 trivial)).below hb3, (HX3 trivial).below hb3 (HX3 trivial).lt⟩); clear hm3 hb3 q1 q2 q3 CN y0 y1 y2 y3 y4 g0 g1 g2 g3 g4 HX3 HB3 HX2 HB2 HX1 HB1 HBX HX HGT x0 x1 x2 x3 x4 HS1 HS2)
    | (go_at_call 18; have h := mod_Open _ bm bt tb lb c 0 (by decide) [] HW3.out.1; rw [open_first HC.out] at h; refine h.mono ?_; clear h; rintro e w4 ⟨rfl, hm4, ho4⟩; have HW4 := Lib.hid (HW3.out.step HA1.out HA2.out hm4 ho4); clear hm4 ho4))
  have hws := HW4.out
  rw [room_new] at hws
  have HWS : Hid (RoomW w bm bt tb lb c (((0 : Nat) : Int) * 1048576) [(0, roomK c.room 0 0)] A1 A2 l1 l2 w4) := Lib.hid (by simpa using hws)
  clear hws
  go_loopw [12, 13, 14] (fun v12 v13 v14 wr => ∃ (i : Nat) (came gone : Int), v14 = .int .i64 (i : Int) ∧ v12 = .int .i64 came ∧ v13 = .int .i64 gone ∧ i ≤ n1 ∧ 0 ≤ gone ∧ gone ≤ 8 * came ∧ came ≤ 2000 * (i : Int) ∧ Hid (RoomW w bm bt tb lb c ((i : Int) * 1048576) [(0, roomK c.room came gone)] A1 A2 l1 l2 wr)) (fun v12 v13 v14 _ => n1 - (numOf v14).toNat)
  case atStart => exact ⟨0, 0, 0, rfl, rfl, rfl, Nat.zero_le _, Int.le_refl _, Int.le_refl _, Int.le_refl _, HWS⟩
  case round =>
    obtain ⟨i, came, gone, rfl, rfl, rfl, hi, hg0, hg1, hcm, HW⟩ := hrel
    by_cases hlt : i < n1
    · have hltI : (i : Int) < (n1 : Int) := by omega
      have hi60 : i < 60 := by omega
      obtain ⟨ad1, hA1, _, hx1⟩ := HW.out.2.2.2.2.2.1.int i (by rw [HN1.out]; exact hlt)
      subst hA1
      obtain ⟨x, hx⟩ : ∃ x, l1[i]'(by rw [HN1.out]; exact hlt) = x := ⟨_, rfl⟩
      rw [hx] at hx1
      obtain ⟨nn, hnn⟩ : ∃ nn, x % 2000 = nn := ⟨_, rfl⟩
      have bn : 0 ≤ nn ∧ nn < 2000 := by rw [← hnn]; exact room_mod x 2000 (by decide)
      have hkn := (HW.out.1.kn (show atL [(0, roomK c.room came gone)] 1 = some (0, roomK c.room came gone) from rfl)).2.2.2.2.2.2.1
      have hfree : 0 ≤ c.room - came + gone / 8 := hkn
      have hro := HC.out.2.2.2.2.2.2.2.1
      have hro0 := HC.out.2.2.2.2.2.2.1
      obtain ⟨rm, hrm⟩ : ∃ rm, c.room - came + gone / 8 = rm := ⟨_, rfl⟩
      rw [hrm] at hfree
      obtain ⟨t, ht⟩ : ∃ t, min nn rm = t := ⟨_, rfl⟩
      have P1 := Lib.hid (fun W => by have h := kit_Pick x 2000 W (by decide) (by decide); rw [hnn] at h; exact h)
      have q1 : gone.tdiv 8 = gone / 8 := tdiv8 hg0
      obtain ⟨cm2, hcm2⟩ : ∃ cm2, came + t = cm2 := ⟨_, rfl⟩
      obtain ⟨w1, w1', w2, w3, w4, hcm9, hcm10, hgc, hfr2, hc20⟩ := room_a1 hro0 hro hg0 hg1 hcm hi60 bn.1 bn.2 hrm hfree ht hcm2
      have hB := room_B i hi60
      have F1 := Lib.hid (fun W (h : RoomW w bm bt tb lb c ((i : Int) * 1048576) [(0, roomK c.room came gone)] (some ad1) A2 l1 l2 W) => law_feeds W bm bt tb lb c _ _ h.1 hB 1 nn one_wf t 0 [(0, roomK c.room cm2 gone)] (by rw [room_feed bn.1, hrm, ht, hcm2]))
      have w7 := room_w7 i hi60
      have hcf := HW.out.2.2.2.2.2.2.2
      have k3 := hcf.cell 3
      have hi0 := room_i i
      have HI := Lock.mk hlt
      have HCM := Lock.mk hcm9
      by_cases hl2 : i < n2
      · have hl2I : (i : Int) < (n2 : Int) := Int.ofNat_lt.2 hl2
        obtain ⟨ad2, hA2, _, hx2⟩ := HW.out.2.2.2.2.2.2.1.int i (by rw [HN2.out]; exact hl2)
        subst hA2
        obtain ⟨y, hy⟩ : ∃ y, l2[i]'(by rw [HN2.out]; exact hl2) = y := ⟨_, rfl⟩
        rw [hy] at hx2
        obtain ⟨rr, hrr⟩ : ∃ rr, y % (8 * cm2 - gone + 1) = rr := ⟨_, rfl⟩
        obtain ⟨hpos, hpos2⟩ := room_pos hg0 hgc hcm10
        have br : 0 ≤ rr ∧ rr < 8 * cm2 - gone + 1 := by rw [← hrr]; exact room_mod _ _ hpos
        have P2 := Lib.hid (fun W => by have h := kit_Pick y (8 * cm2 - gone + 1) W hpos hpos2; rw [hrr] at h; exact h)
        obtain ⟨gn2, hgn2⟩ : ∃ gn2, gone + rr = gn2 := ⟨_, rfl⟩
        obtain ⟨w5, w5', w6, bg1, bg2⟩ := room_a3 hg0 hgc hcm10 br.1 br.2 hgn2
        have bg := And.intro bg1 bg2
        have HI2 := Lock.mk hl2
        have HY := Lib.hid hy
        obtain ⟨lf, hlf⟩ : ∃ lf, 8 * cm2 - gn2 = lf := ⟨_, rfl⟩
        obtain ⟨fe, hfe⟩ : ∃ fe, c.room - cm2 + gn2 / 8 = fe := ⟨_, rfl⟩
        obtain ⟨q2, v1, v2, v2', v3, f1, f2⟩ := room_a2 hro0 hro hg0 bg.1 bg.2 hcm10 hfr2 hlf hfe
        have h40 : cm2 ≤ 2 ^ 40 := Int.le_trans hcm10 (by decide)
        have S1 := Lib.hid (fun W (h : RoomW w bm bt tb lb c (((i + 1 : Nat) : Int) * 1048576) [(0, roomK c.room cm2 gone)] (some ad1) (some ad2) l1 l2 W) => see_any W bm bt tb lb c _ _ h.1 ⟨0, false, 0, 0, lf, fe, 0, 0, gn2⟩ 0 [(0, roomK c.room cm2 gn2)] (room_see HC.out hg0 bg.1 bg.2 h40 lf fe hlf.symm hfe.symm))
        have HG := Lock.mk (Int.le_trans hg0 bg.1)
        have HG2 := Lock.mk bg.2
        have CE1 := Lock.mk hcm2
        clear hi hg0 hg1 hcm hlt hx hnn bn hkn hfree hrm hcm2 hB hcf bg hlf hfe hcm9 hcm10 hgc hfr2 hc20 h40 hro hro0 hi60 hy hrr br hgn2 hpos hpos2 bg1 bg2
        replace w7 := (fun (_ : True) => w7)
        replace w1 := (fun (_ : True) => w1)
        replace w1' := (fun (_ : True) => w1')
        replace w2 := (fun (_ : True) => w2)
        replace w3 := (fun (_ : True) => w3)
        replace w4 := (fun (_ : True) => w4)
        replace v1 := (fun (_ : True) => v1)
        replace v2 := (fun (_ : True) => v2)
        replace v2' := (fun (_ : True) => v2')
        replace v3 := (fun (_ : True) => v3)
        replace w5 := (fun (_ : True) => w5)
        replace w5' := (fun (_ : True) => w5')
        replace w6 := (fun (_ : True) => w6)
        go_wp2_with (first
          | (go_at_call 19; refine (P1.out _).mono ?_; rintro e w' ⟨rfl, rfl⟩; clear P1)
          | (go_at_call 9; refine (F1.out _ HW.out).mono ?_; rintro e w5 ⟨rfl, hm5, ho5⟩; rw [room_BI i] at hm5; have HW5 := Lib.hid (HW.out.step HA1.out HA2.out hm5 (ho5.mono (by simp))); have k3 := HW5.out.2.2.2.2.2.2.2.cell 3; obtain ⟨ad2', hA2', _, hx2'⟩ := HW5.out.2.2.2.2.2.2.1.int i (by rw [HN2.out]; exact HI2.out); cases hA2'; rw [HY.out] at hx2'; clear hm5 ho5 F1)
          | (go_at_call 19; refine (P2.out _).mono ?_; rintro e w' ⟨rfl, rfl⟩; clear P2)
          | (go_at_call 7; have HW5A := Lib.hid (HW5.out.later (show Below w5.heap.size w5 (w5.alloc (.cells #[.int .i64 0, .int .i64 0, .int .i64 lf, .int .i64 fe, .int .i64 0, .int .i64 0, .int .i64 gn2] 27)) from (Below.refl _ _).alloc (Nat.le_refl _) _)); refine (S1.out _ HW5A.out).mono ?_; rintro e w6 ⟨rfl, hm6, ho6⟩; have hw6 := HW5A.out.step HA1.out HA2.out hm6 (ho6.mono (by simp)); have j3 := (ho6.blk (Blk.new w5 27 #[.int .i64 0, .int .i64 0, .int .i64 lf, .int .i64 fe, .int .i64 0, .int .i64 0, .int .i64 gn2]) (by simp; exact Nat.ne_of_gt HW5.out.1.2.2.1.lt)).cell 3; have k3 := hw6.2.2.2.2.2.2.2.cell 3; have HW6 := Lib.hid hw6; clear hm6 ho6 hw6 S1))
        exact ⟨⟨i + 1, cm2, gn2, rfl, rfl, rfl, HI.out, HG.out, HG2.out, HCM.out, HW6⟩, by have := HI.out; show n1 - ((i : Int) + 1).toNat < n1 - (i : Int).toNat; omega⟩
      · have hl2I : ¬ (i : Int) < (n2 : Int) := fun h => hl2 (Int.ofNat_lt.1 h)
        have bg : gone ≤ gone ∧ gone ≤ 8 * cm2 := ⟨Int.le_refl _, hgc⟩
        obtain ⟨lf, hlf⟩ : ∃ lf, 8 * cm2 - gone = lf := ⟨_, rfl⟩
        obtain ⟨fe, hfe⟩ : ∃ fe, c.room - cm2 + gone / 8 = fe := ⟨_, rfl⟩
        obtain ⟨q2, v1, v2, v2', v3, f1, f2⟩ := room_a2 hro0 hro hg0 bg.1 bg.2 hcm10 hfr2 hlf hfe
        have h40 : cm2 ≤ 2 ^ 40 := Int.le_trans hcm10 (by decide)
        have S1 := Lib.hid (fun W (h : RoomW w bm bt tb lb c (((i + 1 : Nat) : Int) * 1048576) [(0, roomK c.room cm2 gone)] (some ad1) A2 l1 l2 W) => see_any W bm bt tb lb c _ _ h.1 ⟨0, false, 0, 0, lf, fe, 0, 0, gone⟩ 0 [(0, roomK c.room cm2 gone)] (room_see HC.out hg0 bg.1 bg.2 h40 lf fe hlf.symm hfe.symm))
        have HG := Lock.mk (Int.le_trans hg0 bg.1)
        have HG2 := Lock.mk bg.2
        have CE1 := Lock.mk hcm2
        clear hi hg0 hg1 hcm hlt hx hnn bn hkn hfree hrm hcm2 hB hcf hl2 bg hlf hfe hcm9 hcm10 hgc hfr2 hc20 h40 hro hro0 hi60
        replace w7 := (fun (_ : True) => w7)
        replace w1 := (fun (_ : True) => w1)
        replace w1' := (fun (_ : True) => w1')
        replace w2 := (fun (_ : True) => w2)
        replace w3 := (fun (_ : True) => w3)
        replace w4 := (fun (_ : True) => w4)
        replace v1 := (fun (_ : True) => v1)
        replace v2 := (fun (_ : True) => v2)
        replace v2' := (fun (_ : True) => v2')
        replace v3 := (fun (_ : True) => v3)
        go_wp2_with (first
          | (go_at_call 19; refine (P1.out _).mono ?_; rintro e w' ⟨rfl, rfl⟩; clear P1)
          | (go_at_call 9; refine (F1.out _ HW.out).mono ?_; rintro e w5 ⟨rfl, hm5, ho5⟩; rw [room_BI i] at hm5; have HW5 := Lib.hid (HW.out.step HA1.out HA2.out hm5 (ho5.mono (by simp))); have k3 := HW5.out.2.2.2.2.2.2.2.cell 3;  clear hm5 ho5 F1)
          
          | (go_at_call 7; have HW5A := Lib.hid (HW5.out.later (show Below w5.heap.size w5 (w5.alloc (.cells #[.int .i64 0, .int .i64 0, .int .i64 lf, .int .i64 fe, .int .i64 0, .int .i64 0, .int .i64 gone] 27)) from (Below.refl _ _).alloc (Nat.le_refl _) _)); refine (S1.out _ HW5A.out).mono ?_; rintro e w6 ⟨rfl, hm6, ho6⟩; have hw6 := HW5A.out.step HA1.out HA2.out hm6 (ho6.mono (by simp)); have j3 := (ho6.blk (Blk.new w5 27 #[.int .i64 0, .int .i64 0, .int .i64 lf, .int .i64 fe, .int .i64 0, .int .i64 0, .int .i64 gone]) (by simp; exact Nat.ne_of_gt HW5.out.1.2.2.1.lt)).cell 3; have k3 := hw6.2.2.2.2.2.2.2.cell 3; have HW6 := Lib.hid hw6; clear hm6 ho6 hw6 S1))
        exact ⟨⟨i + 1, cm2, gone, rfl, rfl, rfl, HI.out, HG.out, HG2.out, HCM.out, HW6⟩, by have := HI.out; show n1 - ((i : Int) + 1).toNat < n1 - (i : Int).toNat; omega⟩
    · have hltI : ¬ (i : Int) < (n1 : Int) := by omega
      go_wp2
      go_ret
      exact ⟨rfl, HW.out.2.1⟩
end Go.Proofs.Ytklelheejopfmaa
