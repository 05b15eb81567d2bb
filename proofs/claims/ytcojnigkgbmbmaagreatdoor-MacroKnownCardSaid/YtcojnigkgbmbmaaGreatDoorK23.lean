/- Short -/
import Derived.Test.YtcojnigkgbmbmaaGreatDoorK22
namespace Go.Proofs.YtcojnigkgbmbmaaGreatDoor
open Go Go.RowKit
attribute [local go_sem] Oper.semAt_some
def matB (p : Int × Int) (x : (Int × Int) × List UInt8) : Bool := x.1.1 == p.1 && (x.1.2 == p.2 || x.1.2 == -p.2)
theorem shortC_cons (p : Int × Int) (x : (Int × Int) × List UInt8) (T : List ((Int × Int) × List UInt8)) : shortC p (x :: T) = if matB p x then x.2 else shortC p T := rfl
theorem shortC_pre {p : Int × Int} {pre T : List ((Int × Int) × List UInt8)} (h : ∀ x ∈ pre, matB p x = false) : shortC p (pre ++ T) = shortC p T := by
  induction pre with
  | nil => rfl
  | cons x pre ih =>
    rw [List.cons_append, shortC_cons, h x (by simp), ih (fun y hy => h y (by simp [hy]))]
    rfl
def ShL (h : Nat) (p : Int × Int) (first : Bool) : List CellF := [(h, 109, #[.int .i64 p.1, .int .i64 p.2]), (h + 1, 9, #[.string ⟨#[]⟩]), (h + 2, 4, #[.bool first])]
set_option maxRecDepth 100000 in
set_option maxHeartbeats 4000000 in
theorem coeff_short (p : Int × Int) (first : Bool) (w : World) (hT : Ts w) (hp : -127 ≤ p.2 ∧ p.2 ≤ 127) : Calls Tryz.prog 133 #[.agg #[.int .i64 p.1, .int .i64 p.2], .bool first] w fun e w' => e = .returned (.string (bs (shortC p (tabL first)))) ∧ Below w.heap.size w w' := by
  have HT := Lib.hid hT
  obtain ⟨p1, p2⟩ := p
  obtain ⟨hp1, hp2⟩ := hp
  dsimp only at hp1 hp2
  obtain ⟨TL, htl⟩ : ∃ TL, TL = tabL first := ⟨_, rfl⟩
  have SQ := Lib.hid (fun b I hI hIs => table_seq 4 (by decide) b first I hI hIs)
  rw [← htl] at SQ
  rw [← htl]
  clear htl hT
  obtain ⟨R, hR⟩ : ∃ R, R = shortC (p1, p2) TL := ⟨_, rfl⟩
  rw [← hR]
  have HR := Lib.hid hR
  clear hR
  refine (callsIn_wide (n := 5)).1 ?_
  refine callsIn_of_wp_marks Tryz.func133 rfl trivial ?_ rfl
  simp only [Tryz.ntmps133, List.size_toArray, List.length_cons, List.length_nil, Nat.reduceAdd, Nat.reduceSub, Array.replicate_succ, Array.replicate_zero, List.push_toArray, List.append_toArray, List.nil_append, List.cons_append]
  refine wpIn_wide.2 ?_
  go_wp2_with (go_at_call 158; refine (coeff_table first _).mono ?_; rintro e w' ⟨rfl, rfl⟩)
  simp only [Nat.add_assoc, Nat.reduceAdd]
  refine (wpIn_wide (n := 5)).1 ?_
  refine wp_gF (α := (Int × Int) × List UInt8) (enc := encT) (I := ICons w (fun pre (_ : Unit) => ∀ x ∈ pre, matB (p1, p2) x = false) (fun _ _ => ShL w.heap.size (p1, p2) first) (fun _ _ => [])) (I2 := ICons w (fun pre (_ : Unit) => ∀ x ∈ pre, matB (p1, p2) x = false) (fun _ _ => ShL w.heap.size (p1, p2) first) (fun _ _ => [])) (S := fun xs => xs = TL) (Sp := fun pre => pre <+: TL)
    rfl (by decide) (gf := 171) (lb := #[.pointer (some ⟨w.heap.size + 2, 0, none⟩)]) rfl trivial (enters_of Tryz.func171 (by kernel_rfl) rfl)
    (SQ.out (w.heap.size + 2) _ ic_below ?hIs) (fun _ => rfl)
    (fun cd _ W => RetC w [(w.heap.size + 1, 9, #[.string (bs R)])] cd W)
    (fun pre x g W => ICons w (fun pre (_ : Unit) => ∀ x ∈ pre, matB (p1, p2) x = false) (fun _ _ => (g, 109, #[.int .i64 x.1.1, .int .i64 x.1.2]) :: ShL w.heap.size (p1, p2) first) (fun _ _ => []) pre W)
    (own_ic (by simp; omega) _ _ _) (own_ic (by simp; omega) _ _ _) (fun cd => own_retC (by simp; omega) _ _) (fun x g => own_ic (by simp; omega) _ _ _) ?start ?round ?done ?stop
  case hIs =>
    rintro pre W ⟨⟨_, _, hc⟩⟩
    exact ⟨hc.2.1.tail.tail.head, HT.out.below hc.1⟩
  case start =>
    refine ⟨⟨(), (fun x hx => by cases hx), ?_, ?_, rowsAt_nil _⟩⟩
    · exact (((Below.refl _ _).alloc (Nat.le_refl _) _).alloc (by simp) _).alloc (by simp; omega) _
    · unfold ShL
      refine CellsAt.cons ?_ (CellsAt.cons ?_ (CellsAt.cons ?_ (cellsAt_nil _)))
      all_goals (repeat (first | (refine blkAt (Blk.new _ _ _) ?_; simp [World.size_alloc]; done) | refine Blk.alloc ?_ _))
  case round =>
    apply Exists.intro
    refine And.intro ?_ ?_
    · rintro lp pre x W ⟨⟨u, hu, hc⟩⟩ hsp
      have HU := Lib.hid hu; have HC := Lib.hid hc
      clear hu hc hsp
      unfold encT
      gi_wp2
      obtain ⟨g0, hg0⟩ : ∃ g0, W.heap.size = g0 := ⟨_, rfl⟩
      have hcc := cons_cell (cons_alloc HC.out (.cells #[.int .i64 x.1.1, .int .i64 x.1.2] 109)) (blkAt (Blk.new W 109 #[.int .i64 x.1.1, .int .i64 x.1.2]) hg0)
      rw [hg0]
      exact ⟨⟨g0, rfl, ⟨u, HU.out, hcc⟩⟩, kf_alloc (KeepsFrom.refl _ _) _, (KeepC.refl _ _).alloc _⟩
    · rintro lp pre x g W ⟨⟨u, hu, hc⟩⟩ hsp
      unfold ShL at hc
      have hs := hc.2.1
      have y0 := hs.head.cell 0
      have y1 := hs.head.cell 1
      have x0 := hs.tail.head.cell 0
      have x1 := hs.tail.head.cell 1
      have r0 := hs.tail.tail.head.cell 0
      have f0 := hs.tail.tail.head.frozen 0
      dsimp only at y0 y1 x0 x1 r0 f0
      obtain ⟨⟨q1, q2⟩, cc⟩ := x
      dsimp only at y0 y1 hc
      have HC := Lib.hid hc; have HU := Lib.hid hu; have HSP := Lib.hid hsp
      have hwn : wrap64 (-p2) = -p2 := by unfold wrap64; omega
      clear hc hu hsp hs
      cases e1 : (q1 == p1) with
      | false =>
        have HM := Lib.hid (show matB (p1, p2) ((q1, q2), cc) = false by unfold matB; dsimp only; rw [e1]; rfl)
        gi_wp2_with fail
        refine ⟨KeepsFrom.refl _ _, KeepC.refl _ _, ⟨⟨(), ?_, cons_drop HC.out⟩⟩⟩
        intro z hz
        rcases List.mem_append.1 hz with hz | hz
        · exact HU.out z hz
        · rw [List.mem_singleton] at hz; rw [hz]; exact HM.out
      | true =>
        cases e2 : (q2 == p2) with
        | true =>
          have HM := Lib.hid (show matB (p1, p2) ((q1, q2), cc) = true by unfold matB; dsimp only; rw [e1, e2]; rfl)
          gi_wp2_with fail
          have hRc : R = cc := by
            obtain ⟨t, ht⟩ := HSP.out
            rw [HR.out, ← ht, List.append_assoc, shortC_pre HU.out, List.singleton_append, shortC_cons, HM.out]; rfl
          have hs := HC.out
          refine ⟨kf_set (KeepsFrom.refl _ _) _ _, rfl, hs.1.setCell (p := ⟨w.heap.size + 1, 0, none⟩) (by show w.heap.size ≤ _; simp) _, CellsAt.cons ?_ (cellsAt_nil _), rowsAt_nil _⟩
          rw [hRc]
          exact hs.2.1.tail.tail.head.set_ 0 _
        | false =>
          cases e3 : (q2 == -p2) with
          | true =>
            have HM := Lib.hid (show matB (p1, p2) ((q1, q2), cc) = true by unfold matB; dsimp only; rw [e1, e2, e3]; rfl)
            gi_wp2_with fail
            have hRc : R = cc := by
              obtain ⟨t, ht⟩ := HSP.out
              rw [HR.out, ← ht, List.append_assoc, shortC_pre HU.out, List.singleton_append, shortC_cons, HM.out]; rfl
            have hs := HC.out
            refine ⟨kf_set (KeepsFrom.refl _ _) _ _, rfl, hs.1.setCell (p := ⟨w.heap.size + 1, 0, none⟩) (by show w.heap.size ≤ _; simp) _, CellsAt.cons ?_ (cellsAt_nil _), rowsAt_nil _⟩
            rw [hRc]
            exact hs.2.1.tail.tail.head.set_ 0 _
          | false =>
            have HM := Lib.hid (show matB (p1, p2) ((q1, q2), cc) = false by unfold matB; dsimp only; rw [e1, e2, e3]; rfl)
            gi_wp2_with fail
            refine ⟨KeepsFrom.refl _ _, KeepC.refl _ _, ⟨⟨(), ?_, cons_drop HC.out⟩⟩⟩
            intro z hz
            rcases List.mem_append.1 hz with hz | hz
            · exact HU.out z hz
            · rw [List.mem_singleton] at hz; rw [hz]; exact HM.out
  case done =>
    rintro D xs W hD rfl ⟨⟨u, hu, hc⟩⟩ hK
    have hRn : R = [] := by rw [HR.out]; have h := shortC_pre (T := []) hu; rw [List.append_nil] at h; rw [h]; rfl
    have hs := hc.2.1
    unfold ShL at hs
    have b1 := hs.tail.head
    dsimp only at b1
    have r0 := b1.cell 0
    have f0 := b1.frozen 0
    have HRN := Lib.hid hRn; have HB1 := Lib.hid b1; have HK := Lib.hid hK; have HBe := Lib.hid hc.1
    clear hRn hs b1 hc hu hK
    gi_wp2_with fail
    go_wp2_with fail
    have hDp : D ≠ w.heap.size + 1 := by simp at hD; omega
    have hK2 := (Below.heap_setCell W ⟨w.heap.size + 1, 0, none⟩ (.string ⟨#[]⟩) D hDp).trans HK.out
    have hc2 : CellsAt [(w.heap.size + 1, 9, #[.string (bs R)])] (W.setCell ⟨w.heap.size + 1, 0, none⟩ (.string ⟨#[]⟩)) := by
      rw [HRN.out]
      exact CellsAt.cons (HB1.out.set_ 0 _) (cellsAt_nil _)
    have hc4 := cells_put (o' := .deferred none) hc2 hK2 rfl
    have hb4 := below_put (o := .deferred none) (HBe.out.setCell (p := ⟨w.heap.size + 1, 0, none⟩) (by show w.heap.size ≤ _; simp) (.string ⟨#[]⟩)) (D := D) (by simp at hD; omega)
    have q0 := hc4.head.cell 0
    refine retM hK2 (v := .string (bs R)) ?_ ?_
    · simp [results, Tryz.results133, go_sem, q0]
    · exact ⟨rfl, hb4⟩
  case stop =>
    rintro D cd pre W hD hsp ⟨rfl, hbel, hcs, _⟩ hK
    have HBel := Lib.hid hbel; have HCS := Lib.hid hcs; have HK := Lib.hid hK
    clear hbel hcs hK hsp
    gi_wp2_with fail
    have hc4 := cells_put (o' := .deferred none) HCS.out HK.out rfl
    have hb4 := below_put (o := .deferred none) HBel.out (D := D) (by simp at hD; omega)
    have q0 := hc4.head.cell 0
    refine retM HK.out (v := .string (bs R)) ?_ ?_
    · simp [results, Tryz.results133, go_sem, q0]
    · exact ⟨rfl, hb4⟩
end Go.Proofs.YtcojnigkgbmbmaaGreatDoor
