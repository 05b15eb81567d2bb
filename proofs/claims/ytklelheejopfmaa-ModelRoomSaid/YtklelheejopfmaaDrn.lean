/- package model: Drain. -/
import Derived.Test.YtklelheejopfmaaDrain
namespace Go.Proofs.Ytklelheejopfmaa
open Go Go.RowKit Go.Maps
attribute [local go_sem] Oper.semAt_some
def drainL (L : List Ent) (id : Int) : Int × List Ent := match atL L id with
  | none => (18, L)
  | some x => if x.1 ≠ 0 then (x.1, L) else if (drainK x.2).1 ≠ 0 then ((drainK x.2).1, L) else if 0 < x.2.queued then (0, L.set (id - 1).toNat (0, (drainK x.2).2.1)) else (x.2.cause, L.set (id - 1).toNat (x.2.cause, (drainK x.2).2.1))
theorem drainL_why {L : List Ent} {id : Int} (h : whyF L id ≠ 0) : drainL L id = (whyF L id, L) := by
  unfold drainL
  unfold whyF at h ⊢
  cases ha : atL L id with
  | none => rfl
  | some x => rw [ha] at h; dsimp only at h ⊢; rw [if_pos h]
theorem drain_kn {c : Cfg} {B : Int} {k : Kn} (h : KnOk c B k) : KnOk c B (drainK k).2.1 := by
  unfold drainK
  split
  · exact h
  · obtain ⟨h1, h2, h3, h4, h5, h6, h7, h8, h9, h10⟩ := h
    exact ⟨h1, h2, h3, h4, h5, h6, h7, by show 0 ≤ max (k.queued - 1) 0; omega, h9, h10⟩
theorem at_set {L : List Ent} {id : Int} {x : Ent} (h : atL L id = some x) (y : Ent) : atL (L.set (id - 1).toNat y) id = some y := by
  have h1 := atL_wf h
  unfold atL
  rw [if_pos h1.1, List.getElem?_set]
  simp; omega
set_option maxRecDepth 100000 in
set_option maxHeartbeats 1000000 in
theorem mod_Drain (w : World) (bm bt tb lb : Nat) (c : Cfg) (B : Int) (L : List Ent) (h : MAt w bm bt tb lb c B L) (hq : ∀ x ∈ L, x.2.queued ≤ 9223372036854775807) (id : Int) (hw : (Lit.int .i64 id).wf = true) :
    Calls Try.prog 13 #[.pointer (some ⟨bm, 0, none⟩), .int .i64 id] w fun e w' => e = .returned (.int .i64 (drainL L id).1) ∧ MAt w' bm bt tb lb c B (drainL L id).2 ∧ Only [tb, lb] w w' := by
  have HE := Lib.hid h
  by_cases hy : whyF L id = 0
  · obtain ⟨k, ha⟩ := why_live hy
    have hk := h.kn ha
    have hqk : k.queued ≤ 9223372036854775807 := by
      unfold atL at ha
      split at ha
      · exact hq _ (List.mem_of_getElem? ha)
      · cases ha
    have hC : ∀ W, Calls Try.prog 31 #[k.val] W fun e w' => e = .returned (.tuple #[(drainK k).2.1.val, (drainK k).2.2.seen, .int .i64 (drainK k).1]) ∧ Below W.heap.size W w' := fun W => mod_Drain1 W k hk.2.2.2.2.2.2.2.1 hqk
    by_cases hd : k.queued = 0 ∧ k.cause = 0
    · have hdk : drainK k = (16, k, Kn.zero) := by unfold drainK; rw [if_pos hd]
      have hL : drainL L id = (16, L) := by unfold drainL; rw [ha]; dsimp only; rw [if_neg (by simp), hdk, if_pos (by simp)]
      rw [hL]
      rw [hdk] at hC
      have CA := Lib.hid (askS_no w bm bt tb lb c B L h id hw k k Kn.zero ha 16 (by decide) (fun W _ => hC W))
      clear h hk ha hy hq hqk hC hd hdk hL
      go_enter Try.func13, Try.ntmps13
      go_wp2_with (go_at_call 30; refine CA.out.mono ?_; rintro e w1 ⟨rfl, hb1⟩; have HB1 := Lib.hid hb1; clear hb1)
      go_ret
      exact ⟨rfl, HE.out.later (HB1.out.alloc HB1.out.size _), Only.of_below (HB1.out.alloc HB1.out.size _)⟩
    · have hdk : drainK k = (0, { k with queued := max (k.queued - 1) 0 }, k) := by unfold drainK; rw [if_neg hd]
      have hkn := drain_kn hk
      rw [hdk] at hC hkn
      have hq0 := hk.2.2.2.2.2.2.2.1
      have hat := at_set ha (0, { k with queued := max (k.queued - 1) 0 })
      obtain ⟨ca, en, cz, q, l, f, fr, p, g⟩ := k
      dsimp only at hq0 hd hkn hdk hC hat
      obtain ⟨q2, hq2⟩ : ∃ q2, max (q - 1) 0 = q2 := ⟨_, rfl⟩
      rw [hq2] at hkn hdk hC hat
      have CA := Lib.hid (askS_ok w bm bt tb lb c B L h id hw ⟨ca, en, cz, q, l, f, fr, p, g⟩ ⟨ca, en, cz, q2, l, f, fr, p, g⟩ ⟨ca, en, cz, q, l, f, fr, p, g⟩ ha B (by omega) h.2.2.2.2.2.2.2 hkn (fun W _ => hC W))
      by_cases hq1 : 0 < q
      · have hL : drainL L id = (0, L.set (id - 1).toNat (0, ⟨ca, en, cz, q2, l, f, fr, p, g⟩)) := by unfold drainL; rw [ha]; dsimp only; rw [if_neg (by simp), hdk]; dsimp only; rw [if_neg (by simp), if_pos hq1]
        rw [hL]
        clear h hk ha hy hq hqk hC hd hdk hL hkn hq0 hat hq2
        go_enter Try.func13, Try.ntmps13
        go_wp2_with (go_at_call 30; refine CA.out.mono ?_; rintro e w1 ⟨rfl, hm1, ho1⟩; have HM1 := Lib.hid hm1; have HO1 := Lib.hid ho1; clear hm1 ho1)
        go_ret
        have hb1 : Below w1.heap.size w1 (w1.alloc (.cells #[.int .i64 cz, .int .i64 q, .int .i64 l, .int .i64 f, .int .i64 fr, .int .i64 p, .int .i64 g] 27)) := (Below.refl _ _).alloc (Nat.le_refl _) _
        exact ⟨rfl, HM1.out.later hb1, (HO1.out.mono (by simp)).trans (Only.of_below hb1)⟩
      · have hq00 : q = 0 := by omega
        subst hq00
        have hcz : cz ≠ 0 := fun e => hd ⟨rfl, e⟩
        have hL : drainL L id = (cz, L.set (id - 1).toNat (cz, ⟨ca, en, cz, q2, l, f, fr, p, g⟩)) := by unfold drainL; rw [ha]; dsimp only; rw [if_neg (by simp), hdk]; dsimp only; rw [if_neg (by simp), if_neg hq1]
        have hss : (L.set (id - 1).toNat (0, ⟨ca, en, cz, q2, l, f, fr, p, g⟩)).set (id - 1).toNat (cz, ⟨ca, en, cz, q2, l, f, fr, p, g⟩) = L.set (id - 1).toNat (cz, ⟨ca, en, cz, q2, l, f, fr, p, g⟩) := List.set_set _
        have CO := Lib.hid (fun W (hW : MAt W bm bt tb lb c B (L.set (id - 1).toNat (0, ⟨ca, en, cz, q2, l, f, fr, p, g⟩))) => mod_over W bm bt tb lb c B _ hW id cz hw hcz _ hat)
        rw [hss] at CO
        rw [hL]
        clear h hk ha hy hq hqk hC hd hdk hL hkn hq0 hat hq2 hcz hss hw hq1
        go_enter Try.func13, Try.ntmps13
        go_wp2_with (first
          | (go_at_call 30; refine CA.out.mono ?_; rintro e w1 ⟨rfl, hm1, ho1⟩; have hb1 : Below w1.heap.size w1 (w1.alloc (.cells #[.int .i64 cz, .int .i64 0, .int .i64 l, .int .i64 f, .int .i64 fr, .int .i64 p, .int .i64 g] 27)) := (Below.refl _ _).alloc (Nat.le_refl _) _; have HM1 := Lib.hid (hm1.later hb1); have HO1 := Lib.hid ((ho1.mono (by simp : ∀ k ∈ [lb], k ∈ [tb, lb])).trans (Only.of_below hb1)); have HS1 := Lib.hid (Blk.new w1 27 #[.int .i64 cz, .int .i64 0, .int .i64 l, .int .i64 f, .int .i64 fr, .int .i64 p, .int .i64 g]); have HNE := Lib.hid (show w1.heap.size ≠ tb ∧ w1.heap.size ≠ lb from ⟨fun e => by have := hm1.2.1.2.1.lt; omega, fun e => by have := hm1.2.2.1.lt; omega⟩); clear hm1 ho1 hb1)
          | (go_at_call 32; refine (CO.out _ HM1.out).mono ?_; rintro e w2 ⟨⟨v, rfl⟩, hm2, ho2⟩; have s0 := (ho2.blk HS1.out (by simp; exact HNE.out)).cell 0; have HM2 := Lib.hid hm2; have HO2 := Lib.hid ho2; clear hm2 ho2))
        go_ret
        exact ⟨rfl, HM2.out, HO1.out.trans HO2.out⟩
  · rw [drainL_why hy]
    have CA := Lib.hid (fun fv => askS_why w bm bt tb lb c B L h id hw fv hy)
    have hyb : (whyF L id != 0) = true := bne_iff_ne.2 hy
    clear h hy hq
    go_enter Try.func13, Try.ntmps13
    go_wp2_with (go_at_call 30; refine (CA.out _).mono ?_; rintro e w1 ⟨rfl, hb1⟩; have HB1 := Lib.hid hb1; clear hb1)
    go_ret
    exact ⟨rfl, HE.out.later (HB1.out.alloc HB1.out.size _), Only.of_below (HB1.out.alloc HB1.out.size _)⟩
end Go.Proofs.Ytklelheejopfmaa
