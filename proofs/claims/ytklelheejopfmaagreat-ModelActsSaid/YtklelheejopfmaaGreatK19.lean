/- Meth, Over, Free, Ref26 -/
import Derived.Test.YtklelheejopfmaaGreatK18
import Derived.Test.YtklelheejopfmaaGreatK17
namespace Go.Proofs.YtklelheejopfmaaGreat
open Go Go.RowKit Go.Maps
attribute [local go_sem] Oper.semAt_some
theorem MAt.mono {w : World} {bm bt tb lb : Nat} {c : Cfg} {B B' : Int} {L : List Ent} (h : MAt w bm bt tb lb c B L) (hB : B ≤ B') (hB' : B' ≤ 2 ^ 45) : MAt w bm bt tb lb c B' L :=
  ⟨h.1, h.2.1, h.2.2.1, h.2.2.2.1, h.2.2.2.2.1, fun x hx => (h.2.2.2.2.2.1 x hx).mono hB, h.2.2.2.2.2.2.1, hB'⟩
theorem MAt.kn {w : World} {bm bt tb lb : Nat} {c : Cfg} {B : Int} {L : List Ent} (h : MAt w bm bt tb lb c B L) {id : Int} {x : Ent} (ha : atL L id = some x) : KnOk c B x.2 := by
  unfold atL at ha
  split at ha
  · exact h.2.2.2.2.2.1 x (List.mem_of_getElem? ha)
  · cases ha
/-- what a call does to a live number, and why it does not. -/
def onL (L : List Ent) (id : Int) (f : Kn → Int × Int × Kn) : Int × Int × List Ent := match atL L id with
  | none => (0, 18, L)
  | some x => if x.1 ≠ 0 then (0, x.1, L) else if (f x.2).2.1 ≠ 0 then (0, (f x.2).2.1, L) else ((f x.2).1, 0, L.set (id - 1).toNat (0, (f x.2).2.2))
theorem onL_why {L : List Ent} {id : Int} {f : Kn → Int × Int × Kn} (h : whyF L id ≠ 0) : onL L id f = (0, whyF L id, L) := by
  unfold onL
  unfold whyF at h ⊢
  cases ha : atL L id with
  | none => rfl
  | some x => rw [ha] at h; dsimp only at h ⊢; rw [if_pos h]
theorem why_live {L : List Ent} {id : Int} (h : whyF L id = 0) : ∃ k, atL L id = some (0, k) := by
  unfold whyF at h
  cases ha : atL L id with
  | none => rw [ha] at h; cases h
  | some x => rw [ha] at h; obtain ⟨d, k⟩ := x; dsimp only at h; subst h; exact ⟨k, rfl⟩
theorem onL_no {L : List Ent} {id : Int} {f : Kn → Int × Int × Kn} {k : Kn} (ha : atL L id = some (0, k)) (h : (f k).2.1 ≠ 0) : onL L id f = (0, (f k).2.1, L) := by
  unfold onL; rw [ha]; dsimp only; rw [if_neg (by simp), if_pos h]
theorem onL_ok {L : List Ent} {id : Int} {f : Kn → Int × Int × Kn} {k : Kn} (ha : atL L id = some (0, k)) (h : (f k).2.1 = 0) : onL L id f = ((f k).1, 0, L.set (id - 1).toNat (0, (f k).2.2)) := by
  unfold onL; rw [ha]; dsimp only; rw [if_neg (by simp), if_neg (by simpa using h)]
theorem feed_ok {c : Cfg} (hc : CfgOk c) {B : Int} {k : Kn} (hk : KnOk c B k) {n : Int} (h : (feedF k n).2.1 = 0) : KnOk c (B + 1048576) (feedF k n).2.2 := by
  unfold feedF at h ⊢
  by_cases h0 : n < 0
  · rw [if_pos h0] at h; cases h
  rw [if_neg h0] at h ⊢
  by_cases he : k.ended = true
  · rw [if_pos he] at h; cases h
  rw [if_neg he]
  obtain ⟨h1, h2, h3, h4, h5, h6, h7, h8, h9, h10⟩ := hk
  obtain ⟨ca, en, cz, q, l, f, fr, p, g⟩ := k
  dsimp only [fedK] at *
  have hr := hc.2.2.2.2.2.2.2.1
  unfold KnOk
  dsimp only
  obtain ⟨t, ht⟩ : ∃ t, min n f = t := ⟨_, rfl⟩
  rw [ht]
  have ht2 : 0 ≤ t ∧ t ≤ f := by omega
  refine ⟨h1, by omega, by omega, ?_, by omega, by omega, by omega, h8, h9, h10⟩
  have : f ≤ c.room := by omega
  omega
set_option maxRecDepth 100000 in
theorem mod_Feed (w : World) (bm bt tb lb : Nat) (c : Cfg) (B : Int) (L : List Ent) (h : MAt w bm bt tb lb c B L) (hB : B + 1048576 ≤ 2 ^ 45) (id n : Int) (hw : (Lit.int .i64 id).wf = true) :
    Calls Tryz.prog 27 #[.pointer (some ⟨bm, 0, none⟩), .int .i64 id, .int .i64 n] w fun e w' => e = .returned (.tuple #[.int .i64 (onL L id (fun k => feedF k n)).1, .int .i64 (onL L id (fun k => feedF k n)).2.1]) ∧ MAt w' bm bt tb lb c (B + 1048576) (onL L id (fun k => feedF k n)).2.2 ∧ Only [lb] w w' := by
  have hb0 : Below w.heap.size w ((w.alloc (.cells #[.pointer (some ⟨bm, 0, none⟩)] 25)).alloc (.cells #[.int .i64 n] 3)) := ((Below.refl _ _).alloc (Nat.le_refl _) _).alloc (by simp) _
  have hp := (Blk.new w 25 #[.pointer (some ⟨bm, 0, none⟩)]).alloc (.cells #[.int .i64 n] 3)
  have hn := (Blk.new (w.alloc (.cells #[.pointer (some ⟨bm, 0, none⟩)] 25)) 3 #[.int .i64 n]).at_eq (World.size_alloc w _)
  have hm := h.later hb0
  have HB0 := Lib.hid hb0
  have HM := Lib.hid hm
  have HE := Lib.hid (h.mono (by omega : B ≤ B + 1048576) hB)
  by_cases hy : whyF L id = 0
  · obtain ⟨k, ha⟩ := why_live hy
    have hk := h.kn ha
    have hC : ∀ W, Below ((w.alloc (.cells #[.pointer (some ⟨bm, 0, none⟩)] 25)).alloc (.cells #[.int .i64 n] 3)).heap.size ((w.alloc (.cells #[.pointer (some ⟨bm, 0, none⟩)] 25)).alloc (.cells #[.int .i64 n] 3)) W → Calls Tryz.prog 51 #[k.val, .pointer (some ⟨w.heap.size + 1, 0, none⟩), .pointer (some ⟨w.heap.size, 0, none⟩)] W
        fun e w' => e = .returned (.tuple #[(feedF k n).2.2.val, .int .i64 (feedF k n).1, .int .i64 (feedF k n).2.1]) ∧ Below W.heap.size W w' := fun W hW =>
      mod_Feed1 W bm bt tb lb _ _ c B L (hm.later hW) k hk n (hn.below hW hn.lt) (hp.below hW hp.lt)
    obtain ⟨o, e, k2⟩ : Int × Int × Kn := feedF k n
    by_cases he : (feedF k n).2.1 = 0
    · rw [onL_ok ha he]
      have CA := Lib.hid (ask_Feed_ok _ bm bt tb lb (w.heap.size + 1) w.heap.size c B L hm id hw k (feedF k n).2.2 ha (feedF k n).1 (B + 1048576) (by omega) hB (feed_ok h.2.2.2.2.1 hk he) (by rw [he] at hC; exact hC))
      clear h hm hp hn hC hk ha hy hb0
      go_enter Tryz.func27, Tryz.ntmps27
      go_wp2_with (go_at_call 43; refine CA.out.mono ?_; rintro e w1 ⟨rfl, hm1, ho1⟩; have HM1 := Lib.hid hm1; have HO1 := Lib.hid ho1; clear hm1 ho1)
      go_returns
      exact ⟨rfl, HM1.out, (Only.of_below HB0.out).trans HO1.out⟩
    · rw [onL_no ha he]
      have CA := Lib.hid (ask_Feed_no _ bm bt tb lb (w.heap.size + 1) w.heap.size c B L hm id hw k (feedF k n).2.2 ha (feedF k n).1 (feedF k n).2.1 he hC)
      clear h hm hp hn hC hk ha hy hb0
      go_enter Tryz.func27, Tryz.ntmps27
      go_wp2_with (go_at_call 43; refine CA.out.mono ?_; rintro e w1 ⟨rfl, hb1⟩; have HB1 := Lib.hid (HB0.out.trans (hb1.mono HB0.out.size)); clear hb1)
      go_returns
      exact ⟨rfl, HE.out.later HB1.out, Only.of_below HB1.out⟩
  · rw [onL_why hy]
    have CA := Lib.hid (fun fv => ask_why _ bm bt tb lb c B L hm id hw fv hy)
    clear h hm hp hn hy hb0
    go_enter Tryz.func27, Tryz.ntmps27
    go_wp2_with (go_at_call 43; refine (CA.out _).mono ?_; rintro e w1 ⟨rfl, hb1⟩; have HB1 := Lib.hid (HB0.out.trans (hb1.mono HB0.out.size)); clear hb1)
    go_returns
    exact ⟨rfl, HE.out.later HB1.out, Only.of_below HB1.out⟩
def endF2 (k : Kn) : Int × Int × Kn := (0, (endK k).1, (endK k).2)
theorem end_ok {c : Cfg} {B : Int} {k : Kn} (hk : KnOk c B k) : KnOk c B (endF2 k).2.2 := by
  unfold endF2 endK
  split
  · exact hk
  · exact hk
set_option maxRecDepth 100000 in
theorem mod_End (w : World) (bm bt tb lb : Nat) (c : Cfg) (B : Int) (L : List Ent) (h : MAt w bm bt tb lb c B L) (id : Int) (hw : (Lit.int .i64 id).wf = true) :
    Calls Tryz.prog 29 #[.pointer (some ⟨bm, 0, none⟩), .int .i64 id] w fun e w' => e = .returned (.int .i64 (onL L id endF2).2.1) ∧ MAt w' bm bt tb lb c B (onL L id endF2).2.2 ∧ Only [lb] w w' := by
  have HE := Lib.hid h
  by_cases hy : whyF L id = 0
  · obtain ⟨k, ha⟩ := why_live hy
    have hk := h.kn ha
    by_cases he : (endF2 k).2.1 = 0
    · rw [onL_ok ha he]
      have CA := Lib.hid (ask_End_ok w bm bt tb lb c B L h id hw k (endF2 k).2.2 ha 0 B (by omega) h.2.2.2.2.2.2.2 (end_ok hk) (fun W _ => by have h1 := mod_End1 W k; have h2 : (endK k).1 = 0 := he; rw [h2] at h1; exact h1))
      clear h hk ha hy
      go_enter Tryz.func29, Tryz.ntmps29
      go_wp2_with (go_at_call 43; refine CA.out.mono ?_; rintro e w1 ⟨rfl, hm1, ho1⟩; have HM1 := Lib.hid hm1; have HO1 := Lib.hid ho1; clear hm1 ho1)
      go_ret
      exact ⟨rfl, HM1.out, HO1.out⟩
    · rw [onL_no ha he]
      have CA := Lib.hid (ask_End_no w bm bt tb lb c B L h id hw k (endF2 k).2.2 ha 0 (endF2 k).2.1 he (fun W _ => mod_End1 W k))
      clear h hk ha hy
      go_enter Tryz.func29, Tryz.ntmps29
      go_wp2_with (go_at_call 43; refine CA.out.mono ?_; rintro e w1 ⟨rfl, hb1⟩; have HB1 := Lib.hid hb1; clear hb1)
      go_ret
      exact ⟨rfl, HE.out.later HB1.out, Only.of_below HB1.out⟩
  · rw [onL_why hy]
    have CA := Lib.hid (fun fv => ask_why _ bm bt tb lb c B L h id hw fv hy)
    clear h hy
    go_enter Tryz.func29, Tryz.ntmps29
    go_wp2_with (go_at_call 43; refine (CA.out _).mono ?_; rintro e w1 ⟨rfl, hb1⟩; have HB1 := Lib.hid hb1; clear hb1)
    go_ret
    exact ⟨rfl, HE.out.later HB1.out, Only.of_below HB1.out⟩
end Go.Proofs.YtklelheejopfmaaGreat
namespace Go.Proofs.YtklelheejopfmaaGreat
open Go Go.RowKit Go.Maps
attribute [local go_sem] Oper.semAt_some
theorem set_dead {L : List Ent} {id c : Int} {x : Ent} (h : atL L id = some x) (hc : c ≠ 0) (k : Kn) : (numD gL L).del (.int .i64 id) = numD gL (L.set (id - 1).toNat (c, k)) := by
  obtain ⟨h1, h2⟩ := atL_wf h
  have h3 := numD_del (g := gL) L (id - 1).toNat (c, k) (by omega) (by unfold gL; rw [if_neg hc])
  have e : (((id - 1).toNat : Nat) : Int) + 1 = id := by omega
  rwa [e] at h3
theorem live_dead (L : List Ent) (i : Nat) (c : Int) (hc : c ≠ 0) (k : Kn) : (liveK (L.set i (c, k))).length ≤ (liveK L).length := by
  unfold liveK
  suffices ∀ s, (numK gL s (L.set i (c, k))).length ≤ (numK gL s L).length from this 0
  induction L generalizing i with
  | nil => intro s; simp
  | cons x L ih =>
    intro s
    cases i with
    | zero =>
      rw [List.set_cons_zero, numK, numK]
      have : (gL (c, k)).isSome = false := by unfold gL; rw [if_neg hc]; rfl
      rw [this]; simp
    | succ i =>
      rw [List.set_cons_succ, numK, numK, List.length_append, List.length_append]
      have := ih i (s + 1)
      omega
set_option maxRecDepth 100000 in
theorem mod_over (w : World) (bm bt tb lb : Nat) (c : Cfg) (B : Int) (L : List Ent) (h : MAt w bm bt tb lb c B L) (id cs : Int) (hw : (Lit.int .i64 id).wf = true) (hc : cs ≠ 0) (k : Kn) (ha : atL L id = some (0, k)) :
    Calls Tryz.prog 48 #[.pointer (some ⟨bm, 0, none⟩), .int .i64 id, .int .i64 cs] w fun e w' => (∃ v, e = .returned v) ∧ MAt w' bm bt tb lb c B (L.set (id - 1).toNat (cs, k)) ∧ Only [tb, lb] w w' := by
  have H := Lib.hid h
  have m5 := h.1.cell 5
  have CE := Lib.hid (table_End_ok w bt tb c.sess L h.2.1 id cs hw hc k ha)
  have HK := Lib.hid (key_int id hw)
  have HD := Lib.hid (set_dead ha hc k)
  have HL := Lib.hid (live_dead L (id - 1).toNat cs hc k)
  have HN := Lib.hid (h.kn ha)
  obtain ⟨i, hi⟩ : ∃ i, (id - 1).toNat = i := ⟨_, rfl⟩
  rw [hi] at CE HD HL ⊢
  clear h hw hc ha hi
  go_enter Tryz.func48, Tryz.ntmps48
  go_wp2_with (first
    | (go_at_call 62; refine CE.out.mono ?_; rintro e w1 ⟨rfl, ht1, ho1⟩; have HT1 := Lib.hid ht1; have HO1 := Lib.hid ho1; have hb1 := ho1.blk H.out.1 (by simp; exact (own_ne_blk H.out.2.1.2.1 H.out.1).symm); have y6 := hb1.cell 6; have HB1 := Lib.hid hb1; have HL1 := Lib.hid (ho1.own H.out.2.2.1 (by simpa using H.out.2.2.2.1.symm)); clear ht1 ho1 hb1)
    | (at_delete; refine wpList_delete_own _ rfl _ _ 54 3 rfl 72 keyed_int Tryz.underlying54 heldR lb L.length _ rfl HL1.out (.int .i64 id) (.int .i64 id) rfl HK.out ?_; intro w5 hown5 hturn5; rw [HD.out] at hown5; have HO5 := Lib.hid hown5; have HU5 := Lib.hid hturn5; clear hown5 hturn5))
  go_end0
  have hlen : (L.set i (cs, k)).length = L.length := by simp
  have hO5 : Only [lb] w1 w5 := Only.turned (Only.of_below (Below.refl _ _)) HU5.out (by simp)
  refine ⟨⟨_, rfl⟩, ⟨blk_turned HB1.out HU5.out, HT1.out.only hO5 ?_ ?_, by rw [hlen]; exact HO5.out, H.out.2.2.2.1, H.out.2.2.2.2.1, ?_, ?_, H.out.2.2.2.2.2.2.2⟩, (HO1.out.mono (by simp)).trans (hO5.mono (by simp))⟩
  · simp; exact (own_ne_blk HL1.out HT1.out.1).symm
  · simpa using H.out.2.2.2.1
  · intro x hx
    rcases mem_set hx with hx | rfl
    · exact H.out.2.2.2.2.2.1 x hx
    · exact HN.out
  · have h1 := H.out.2.2.2.2.2.2.1
    have h2 := HL.out
    omega
def outL (L : List Ent) (id cs : Int) : Int × List Ent := match atL L id with
  | none => (18, L)
  | some x => if x.1 ≠ 0 then (x.1, L) else (0, L.set (id - 1).toNat (cs, x.2))
theorem outL_why {L : List Ent} {id cs : Int} (h : whyF L id ≠ 0) : outL L id cs = (whyF L id, L) := by
  unfold outL
  unfold whyF at h ⊢
  cases ha : atL L id with
  | none => rfl
  | some x => rw [ha] at h; dsimp only at h ⊢; rw [if_pos h]
theorem outL_live {L : List Ent} {id cs : Int} {k : Kn} (ha : atL L id = some (0, k)) : outL L id cs = (0, L.set (id - 1).toNat (cs, k)) := by
  unfold outL; rw [ha]; dsimp only; rw [if_neg (by simp)]
theorem set_same {L : List Ent} {id : Int} {x : Ent} (h : atL L id = some x) : L.set (id - 1).toNat x = L := by
  unfold atL at h
  split at h
  · obtain ⟨h1, h2⟩ := List.getElem?_eq_some_iff.1 h
    rw [← h2]; exact List.set_getElem_self h1
  · cases h
set_option maxRecDepth 100000 in
theorem mod_out (w : World) (bm bt tb lb : Nat) (c : Cfg) (B : Int) (L : List Ent) (h : MAt w bm bt tb lb c B L) (id cs : Int) (hw : (Lit.int .i64 id).wf = true) (hc : cs ≠ 0) :
    Calls Tryz.prog 56 #[.pointer (some ⟨bm, 0, none⟩), .int .i64 id, .int .i64 cs] w fun e w' => e = .returned (.int .i64 (outL L id cs).1) ∧ MAt w' bm bt tb lb c B (outL L id cs).2 ∧ Only [tb, lb] w w' := by
  have H := Lib.hid h
  by_cases hy : whyF L id = 0
  · obtain ⟨k, ha⟩ := why_live hy
    rw [outL_live ha]
    have CA := Lib.hid (ask_out_ok w bm bt tb lb c B L h id hw k k ha 0 B (by omega) h.2.2.2.2.2.2.2 (h.kn ha) (fun W _ => mod_out1 W k))
    rw [set_same ha] at CA
    have CO := Lib.hid (fun W (hW : MAt W bm bt tb lb c B L) => mod_over W bm bt tb lb c B L hW id cs hw hc k ha)
    clear h hw hc ha hy
    go_enter Tryz.func56, Tryz.ntmps56
    go_wp2_with (first
      | (go_at_call 43; refine CA.out.mono ?_; rintro e w1 ⟨rfl, hm1, ho1⟩; have HM1 := Lib.hid hm1; have HO1 := Lib.hid ho1; clear hm1 ho1)
      | (go_at_call 48; refine (CO.out _ HM1.out).mono ?_; rintro e w2 ⟨⟨v, rfl⟩, hm2, ho2⟩; have HM2 := Lib.hid hm2; have HO2 := Lib.hid ho2; clear hm2 ho2))
    go_ret
    exact ⟨rfl, HM2.out, (HO1.out.mono (by simp)).trans HO2.out⟩
  · rw [outL_why hy]
    have CA := Lib.hid (fun fv => ask_why w bm bt tb lb c B L h id hw fv hy)
    have hyb : (whyF L id == 0) = false := beq_eq_false_iff_ne.2 hy
    clear h hw hc hy
    go_enter Tryz.func56, Tryz.ntmps56
    go_wp2_with (go_at_call 43; refine (CA.out _).mono ?_; rintro e w1 ⟨rfl, hb1⟩; have HB1 := Lib.hid hb1; clear hb1)
    go_ret
    exact ⟨rfl, H.out.later HB1.out, Only.of_below HB1.out⟩
theorem mod_Close (w : World) (bm bt tb lb : Nat) (c : Cfg) (B : Int) (L : List Ent) (h : MAt w bm bt tb lb c B L) (id : Int) (hw : (Lit.int .i64 id).wf = true) :
    Calls Tryz.prog 33 #[.pointer (some ⟨bm, 0, none⟩), .int .i64 id] w fun e w' => e = .returned (.int .i64 (outL L id 21).1) ∧ MAt w' bm bt tb lb c B (outL L id 21).2 ∧ Only [tb, lb] w w' := by
  have CO := Lib.hid (mod_out w bm bt tb lb c B L h id 21 hw (by decide))
  clear h hw
  go_enter Tryz.func33, Tryz.ntmps33
  go_wp2_with (go_at_call 56; refine CO.out.mono ?_; rintro e w1 ⟨rfl, hr⟩; have HR := Lib.hid hr; clear hr)
  go_ret
  exact ⟨rfl, HR.out⟩
theorem mod_Evict (w : World) (bm bt tb lb : Nat) (c : Cfg) (B : Int) (L : List Ent) (h : MAt w bm bt tb lb c B L) (id : Int) (hw : (Lit.int .i64 id).wf = true) :
    Calls Tryz.prog 35 #[.pointer (some ⟨bm, 0, none⟩), .int .i64 id] w fun e w' => e = .returned (.int .i64 (outL L id 22).1) ∧ MAt w' bm bt tb lb c B (outL L id 22).2 ∧ Only [tb, lb] w w' := by
  have CO := Lib.hid (mod_out w bm bt tb lb c B L h id 22 hw (by decide))
  clear h hw
  go_enter Tryz.func35, Tryz.ntmps35
  go_wp2_with (go_at_call 56; refine CO.out.mono ?_; rintro e w1 ⟨rfl, hr⟩; have HR := Lib.hid hr; clear hr)
  go_ret
  exact ⟨rfl, HR.out⟩
theorem mod_Live (w : World) (bm bt tb lb : Nat) (c : Cfg) (B : Int) (L : List Ent) (h : MAt w bm bt tb lb c B L) :
    Calls Tryz.prog 10 #[.pointer (some ⟨bm, 0, none⟩)] w fun e w' => ∃ v, e = .returned v ∧ w'.ownsRow w.heap.size 3 1 v (liveK L).length ((liveK L).map encZ) ∧ Below w.heap.size w w' := by
  have H := Lib.hid h
  have m5 := h.1.cell 5
  have CL := Lib.hid (table_Live w bt tb c.sess L h.2.1)
  clear h
  go_enter Tryz.func10, Tryz.ntmps10
  go_wp2_with (first
    | (go_at_call 39; refine (mod_none _ _ _ _ _ _ _ _ H.out).mono ?_; rintro e w' ⟨rfl, rfl⟩)
    | (go_at_call 42; refine CL.out.mono ?_; rintro e w1 ⟨v, rfl, hr⟩; have HR := Lib.hid hr; clear hr))
  go_ret
  exact ⟨v, rfl, HR.out⟩
end Go.Proofs.YtklelheejopfmaaGreat
namespace Go.Proofs.YtklelheejopfmaaGreat
open Go Go.RowKit Go.Maps
attribute [local go_sem] Oper.semAt_some
/-- the frames of live numbers that are not to come any more -/
def sumF (left : Lit → Bool) : Nat → List Ent → Int
  | _, [] => 0
  | s, x :: L => (if x.1 = 0 ∧ left (keyI ((s : Int) + 1)) = false then x.2.frames else 0) + sumF left (s + 1) L
/-- the frames of all live numbers -/
def allF (L : List Ent) : Int := sumF (fun _ => false) 0 L
theorem sumF_bounds {c : Cfg} {B : Int} (hq : c.quota ≤ 64) (left : Lit → Bool) : ∀ (L : List Ent) (s : Nat), (∀ x ∈ L, KnOk c B x.2) → 0 ≤ sumF left s L ∧ sumF left s L ≤ 64 * L.length
  | [], s, _ => by simp [sumF]
  | x :: L, s, h => by
    have ih := sumF_bounds hq left L (s + 1) (fun y hy => h y (by simp [hy]))
    have hx := h x (by simp)
    have h1 := hx.2.2.2.2.2.2.2.2.1
    have h2 := hx.2.2.2.2.2.2.2.2.2
    rw [sumF, List.length_cons]
    split <;> constructor <;> omega
theorem sumF_congr {l1 l2 : Lit → Bool} : ∀ (L : List Ent) (s : Nat), (∀ i : Nat, i < L.length → l1 (keyI ((s + i : Nat) + 1)) = l2 (keyI ((s + i : Nat) + 1)) ∨ L[i]?.map (·.1) ≠ some 0) → sumF l1 s L = sumF l2 s L
  | [], s, _ => rfl
  | x :: L, s, h => by
    have ih := sumF_congr L (s + 1) (fun i hi => by
      have h1 := h (i + 1) (by simpa using hi)
      rw [List.getElem?_cons_succ] at h1
      have e : s + (i + 1) = s + 1 + i := by omega
      rw [e] at h1
      exact h1)
    have h0 := h 0 (by simp)
    rw [sumF, sumF, ih]
    congr 1
    rw [Nat.add_zero, List.getElem?_cons_zero] at h0
    rcases h0 with h0 | h0
    · rw [h0]
    · have h1 : x.1 ≠ 0 := fun e => h0 (by simp [e])
      rw [if_neg (fun e => h1 e.1), if_neg (fun e => h1 e.1)]
theorem sumF_strike (left : Lit → Bool) : ∀ (L : List Ent) (s i : Nat) (k : Kn), L[i]? = some (0, k) → left (keyI ((s + i : Nat) + 1)) = true →
    sumF (fun z => left z && !z.sameKey (keyI ((s + i : Nat) + 1))) s L = sumF left s L + k.frames
  | [], s, i, k, h, _ => by simp at h
  | x :: L, s, 0, k, h, hl => by
    rw [List.getElem?_cons_zero] at h
    cases h
    rw [sumF, sumF]
    have h1 := sumF_congr (l1 := fun z => left z && !z.sameKey (keyI ((s + 0 : Nat) + 1))) (l2 := left) L (s + 1) (fun i hi => .inl (by
      show (left _ && !(keyI _).sameKey (keyI _)) = _
      rw [sameKey_I]
      have : decide (((s + 1 + i : Nat) : Int) + 1 = ((s + 0 : Nat) : Int) + 1) = false := decide_eq_false (by omega)
      rw [this, Bool.not_false, Bool.and_true]))
    rw [h1]
    rw [Nat.add_zero] at hl ⊢
    have h2 : (left (keyI ((s : Int) + 1)) && !(keyI ((s : Int) + 1)).sameKey (keyI ((s : Int) + 1))) = false := by rw [sameKey_I]; simp
    have h3 : (left (keyI ((s : Int) + 1))) = true := hl
    rw [h2, h3, if_pos ⟨rfl, rfl⟩, if_neg (by simp)]
    dsimp only
    omega
  | x :: L, s, i + 1, k, h, hl => by
    rw [List.getElem?_cons_succ] at h
    have e : s + (i + 1) = s + 1 + i := by omega
    rw [e] at hl ⊢
    have ih := sumF_strike left L (s + 1) i k h hl
    rw [sumF, sumF, ih]
    have h1 : (keyI ((s : Int) + 1)).sameKey (keyI (((s + 1 + i : Nat) : Int) + 1)) = false := by rw [sameKey_I]; simp; omega
    rw [h1, Bool.not_false, Bool.and_true]
    omega
theorem sumF_start (L : List Ent) : sumF (Maps.has (numD gL L)) 0 L = 0 := by
  suffices ∀ (M : List Ent) (s : Nat), (∀ i : Nat, i < M.length → M[i]?.map (·.1) = some 0 → Maps.has (numD gL L) (keyI ((s + i : Nat) + 1)) = true) → sumF (Maps.has (numD gL L)) s M = 0 from this L 0 (fun i hi h => by
    rw [Nat.zero_add]
    show Maps.has (numD gL L) (.int .i64 _) = true
    rw [numD_has, if_pos (by omega)]
    have e : (((i : Int) + 1 - 1)).toNat = i := by omega
    rw [e]
    cases hx : L[i]? with
    | none => rw [hx] at h; simp at h
    | some x =>
      rw [hx] at h
      have h1 : x.1 = 0 := by simpa using h
      show (gL x).isSome = true
      unfold gL
      rw [if_pos h1]; rfl)
  intro M
  induction M with
  | nil => intro s _; rfl
  | cons x M ih =>
    intro s h
    rw [sumF, ih (s + 1) (fun i hi hx => by
      have h1 := h (i + 1) (by simpa using hi) (by rw [List.getElem?_cons_succ]; exact hx)
      have e : s + (i + 1) = s + 1 + i := by omega
      rw [e] at h1
      exact h1)]
    have h0 := h 0 (by simp)
    rw [Nat.add_zero, List.getElem?_cons_zero] at h0
    by_cases hx : x.1 = 0
    · have h1 := h0 (by simp [hx])
      rw [if_neg (fun e => by rw [h1] at e; cases e.2)]; rfl
    · rw [if_neg (fun e => hx e.1)]; rfl
/-- what comes of a map of live numbers is one of them -/
theorem next_live {L : List Ent} {x : Int} {v : Value} {y : DataW Value × List MemPlace} (hv : heldR v = some y) (hat : ∀ zd, (numD gL L).atKey (.int .i64 x) zd = y.1) : 1 ≤ x ∧ ∃ k, L[(x - 1).toNat]? = some (0, k) ∧ v = k.val := by
  unfold heldR at hv
  cases hv
  have h1 := hat (.held (.bool true))
  have h2 := hat (.held (.bool false))
  rw [numD_atKey] at h1 h2
  injection h1 with h1
  injection h2 with h2
  cases ho : (if 1 ≤ x then L[(x - 1).toNat]?.bind gL else none) with
  | none => rw [ho] at h1 h2; simp only [Option.getD_none] at h1 h2; rw [← h1] at h2; cases h2
  | some u =>
    rw [ho] at h1
    simp only [Option.getD_some] at h1
    subst h1
    split at ho
    · rename_i hx
      refine ⟨hx, ?_⟩
      cases hl : L[(x - 1).toNat]? with
      | none => rw [hl] at ho; cases ho
      | some e =>
        rw [hl] at ho
        obtain ⟨d, k⟩ := e
        have h3 : gL (d, k) = some u := ho
        unfold gL at h3
        split at h3
        · rename_i hd
          dsimp only at hd
          subst hd
          cases h3
          exact ⟨k, rfl, rfl⟩
        · cases h3
    · cases ho
set_option maxRecDepth 100000 in
set_option maxHeartbeats 1000000 in
theorem mod_Free (w : World) (bm bt tb lb : Nat) (c : Cfg) (B : Int) (L : List Ent) (h : MAt w bm bt tb lb c B L) :
    Calls Tryz.prog 13 #[.pointer (some ⟨bm, 0, none⟩)] w fun e w' => e = .returned (.int .i64 (c.frames - allF L)) ∧ Below w.heap.size w w' := by
  have H := Lib.hid h
  have m1 := h.1.cell 1
  have m6 := h.1.cell 6
  have HBn := Lib.hid (fun (left : Lit → Bool) => sumF_bounds (c := c) (B := B) (by have := h.2.2.2.2.1.2.2.2.1; have := h.2.2.2.2.1.2.2.2.2.2.1; omega) left L 0 h.2.2.2.2.2.1)
  have hlen := h.2.1.2.2.1
  have hfr := h.2.2.2.2.1.2.2.2.1
  have hfr1 := h.2.2.2.2.1.2.2.1
  have HF := Lib.hid (And.intro hlen (And.intro hfr1 hfr))
  clear h hlen hfr hfr1
  go_enter Tryz.func13, Tryz.ntmps13
  go_wp2_with (first
    | (go_at_call 39; refine (mod_none _ _ _ _ _ _ _ _ H.out).mono ?_; rintro e w' ⟨rfl, rfl⟩)
    | (at_range; refine wpList_range_own _ rfl _ 54 rfl 3 72 keyed_int Tryz.underlying54 heldR lb L.length (numD gL L) rfl H.out.2.2.1 ?_; intro w0 hrg0 hg0 hs0))
  go_frame
  have HR0 := Lib.hid hrg0
  have HG0 := Lib.hid (below_of_grown' hg0)
  clear hrg0 hg0 hs0
  go_loopw [3] (fun v3 wr => ∃ (left : Lit → Bool) (cnt : Nat), v3 = .int .i64 (c.frames - sumF left 0 L) ∧ Hid (wr.ranges Tryz.prog 3 heldR lb w.heap.size L.length (numD gL L) left cnt) ∧ Hid (Below w.heap.size w wr)) (fun _ wr => wr.rangeLeft lb w.heap.size)
  case atStart => exact ⟨_, _, by rw [sumF_start]; simp, HR0, HG0⟩
  case round =>
    obtain ⟨left, cnt, rfl, HR, HB⟩ := hrel
    go_wp2_with (at_next; refine wpList_next_ranges _ rfl _ rfl 3 keyed_int heldR encZ id (fun key kl hk => by obtain ⟨x, hx, _⟩ := Maps.keyOf_i64 Tryz.underlying3 hk; exact ⟨x, hx⟩) (fun v _ _ => ⟨v, rfl⟩) lb w.heap.size L.length _ _ _ rfl HR.out ?_ ?_)
    · intro hc0 hl0
      have HE := Lib.hid (show sumF left 0 L = allF L from sumF_congr L 0 (fun i _ => .inl (hl0 _)))
      clear hc0 hl0
      go_wp2
      go_ret
      exact ⟨by show Ending.returned (.int .i64 (c.frames - sumF left 0 L)) = _; rw [HE.out], HB.out⟩
    · intro x v kl yd yp w2 cnt2 hkey hlk hv hat hrg2 hlt hg2 hs2 hen
      obtain ⟨x', ex, rfl, _⟩ := Maps.keyOf_i64 Tryz.underlying3 hkey
      obtain rfl : x = x' := encZ_inj ex
      obtain ⟨hx1, k, hk, rfl⟩ := next_live (y := (yd, yp)) hv hat
      obtain ⟨i, hi⟩ : ∃ i, (x - 1).toNat = i := ⟨_, rfl⟩
      rw [hi] at hk
      have hxi : x = ((0 + i : Nat) : Int) + 1 := by omega
      subst hxi
      have hst := sumF_strike left L 0 i k hk hlk
      have hb1 := HBn.out left
      have hb2 := HBn.out (fun z => left z && !z.sameKey (keyI (((0 + i : Nat) : Int) + 1)))
      have hw : wrap64 (c.frames - sumF left 0 L - k.frames) = c.frames - sumF (fun z => left z && !z.sameKey (keyI (((0 + i : Nat) : Int) + 1))) 0 L := by
        have := HF.out
        rw [hst] at hb2 ⊢
        unfold wrap64
        omega
      have HR2 := Lib.hid hrg2
      have HB2 := Lib.hid (HB.out.grown hg2 HB.out.size (fun k hk => by cases hk; exact Nat.le_refl _))
      have HSZ := Lib.hid HB2.out.size
      have HLT := Lib.hid hlt
      have HEQ := Lib.hid HR.out.left_eq
      obtain ⟨ca, en, cz, q, l, f, fr, p, g⟩ := k
      dsimp only at hw
      obtain ⟨y0, hy0⟩ : ∃ y0, sumF left 0 L = y0 := ⟨_, rfl⟩
      obtain ⟨y1, hy1⟩ : ∃ y1, sumF (fun z => left z && !z.sameKey (keyI (((0 + i : Nat) : Int) + 1))) 0 L = y1 := ⟨_, rfl⟩
      rw [hy0, hy1] at hw
      rw [hy0]
      have HY1 := Lib.hid hy1
      have HW := Lib.hid hw
      clear hrg2 hg2 hlt hs2 hv hat hkey hlk hx1 hi hk hst hb1 hb2 hy0 hy1
      go_wp2
      go_roundw
      case rel => exact ⟨_, cnt2, by show Value.int .i64 (wrap64 (c.frames - y0 - fr)) = .int .i64 (c.frames - sumF (fun z => left z && !z.sameKey (keyI (((0 + i : Nat) : Int) + 1))) 0 L); rw [HY1.out, HW.out], Lib.hid (HR2.out.alloc _), Lib.hid (HB2.out.alloc HSZ.out _)⟩
      case measure => rw [(HR2.out.alloc _).left_eq, HEQ.out]; exact HLT.out
end Go.Proofs.YtklelheejopfmaaGreat
namespace Go.Proofs.YtklelheejopfmaaGreat
open Go Go.RowKit Go.Maps
attribute [local go_sem] Oper.semAt_some
def caV (L : List Ent) : List Value := L.map fun x => .int .i64 x.1
/-- the reference's table holds L. -/
def TAt (w : World) (rt base : Nat) (most : Int) (L : List Ent) : Prop := ∃ v, Blk w rt 77 #[.int .i64 most, v] ∧ w.ownsRow base 26 1 v L.length (caV L) ∧ L.length ≤ 2147483647 ∧ base ≤ rt
/-- types of the reference's blocks: of its table, and of all. -/
def T26 (t : TypeId) : Prop := t = 77 ∨ t = 26
def T29 (t : TypeId) : Prop := t = 46 ∨ t = 77 ∨ t = 74 ∨ t = 26
instance (t : TypeId) : Decidable (T26 t) := by unfold T26; infer_instance
instance (t : TypeId) : Decidable (T29 t) := by unfold T29; infer_instance
theorem T26.to29 {t : TypeId} (h : T26 t) : T29 t := by rcases h with h | h; exact .inr (.inl h); exact .inr (.inr (.inr h))
def RT (T : TypeId → Prop) (base : Nat) (w : World) (k : Nat) : Prop := base ≤ k ∧ ∃ cs t fr, w.heap[k]? = some (.cells cs t fr) ∧ T t
def RFq (T : TypeId → Prop) (base : Nat) (w w' : World) : Prop := Turn (RT T base w) w w'
section
variable {T : TypeId → Prop}
theorem RFq.trans {base : Nat} {a b c : World} (h : RFq T base a b) (k : RFq T base b c) : RFq T base a c := by
  refine Turn.trans' h k fun i ho hi => ?_
  rcases Classical.em (RT T base a i) with h1 | h1
  · exact h1
  · obtain ⟨h2, cs, t, fr, h3, h4⟩ := ho
    rw [h.block i hi h1] at h3
    exact ⟨h2, cs, t, fr, h3, h4⟩
theorem RFq.to {T' : TypeId → Prop} (hT : ∀ t, T t → T' t) {base : Nat} {w w' : World} (h : RFq T base w w') : RFq T' base w w' := Turn.mono h fun k hk => ⟨hk.1, by obtain ⟨cs, t, fr, h1, h2⟩ := hk.2; exact ⟨cs, t, fr, h1, hT t h2⟩⟩
theorem RFq.of_below {base : Nat} {w w' : World} (h : Below w.heap.size w w') : RFq T base w w' := Turn.of_below h
theorem RFq.refl (base : Nat) (w : World) : RFq T base w w := Turn.refl _ _
theorem RFq.below {base B : Nat} {w w' : World} (h : RFq T base w w') (hB : B ≤ base) (hw : B ≤ w.heap.size) : Below B w w' := ⟨h.os, h.tape, h.output, h.size, fun k hk => h.block k (by omega) (fun hh => by have := hh.1; omega)⟩
theorem RFq.blk {base : Nat} {w w' : World} (h : RFq T base w w') {g : Nat} {t : TypeId} {cs : Array Value} (hb : Blk w g t cs) (ht : ¬ T t) : Blk w' g t cs := by
  refine Turn.blk h hb fun ho => ?_
  obtain ⟨_, cs', t', fr, h3, h4⟩ := ho
  unfold Blk at hb
  rw [hb] at h3
  cases h3
  exact ht h4
theorem RFq.map {base : Nat} {w w' : World} (h : RFq T base w w') {P : Program} {k : TypeId} {b n : Nat} {D : DataW Value} (hb : w.ownsMap P k heldR b n D) : w'.ownsMap P k heldR b n D := by
  have hl := hb.lt
  obtain ⟨es, clock, hh, r⟩ := hb
  refine ⟨es, clock, (h.block b hl fun ho => ?_).trans hh, r⟩
  obtain ⟨_, cs', t', fr, h3, h4⟩ := ho
  rw [hh] at h3
  cases h3
end
theorem MAt.rfr {base : Nat} {w w' : World} {bm bt tb lb : Nat} {c : Cfg} {B : Int} {L : List Ent} (h : MAt w bm bt tb lb c B L) (hr : RFq T29 base w w') : MAt w' bm bt tb lb c B L :=
  ⟨hr.blk h.1 (by decide), ⟨hr.blk h.2.1.1 (by decide), hr.map h.2.1.2.1, h.2.1.2.2⟩, hr.map h.2.2.1, h.2.2.2⟩
theorem own_same {w w' : World} {b e s n : Nat} {v : Value} {xs : List Value} (h : w.ownsRow b e s v n xs) (hk : ∀ g cs, v.ownBlock = some g → Blk w g e cs → Blk w' g e cs) : w'.ownsRow b e s v n xs := by
  refine ⟨h.1, ?_⟩
  rcases h.2 with h2 | ⟨g, cap, cur, rfl, hb, hh, r⟩
  · exact .inl h2
  · exact .inr ⟨g, cap, cur, rfl, hb, hk g cur rfl hh, r⟩
theorem TAt.later {w w' : World} {rt base : Nat} {most : Int} {L : List Ent} (h : TAt w rt base most L) (hb : Below w.heap.size w w') : TAt w' rt base most L := by
  obtain ⟨v, h1, h2, h3⟩ := h
  exact ⟨v, h1.below hb h1.lt, own_below h2 hb (Nat.le_refl _), h3⟩
/-- the model's blocks bs are other ones. -/
theorem TAt.only {w w' : World} {rt base : Nat} {most : Int} {L : List Ent} {bs : List Nat} (h : TAt w rt base most L) (ho : Only bs w w') (hn : ∀ g cs t, (t = 77 ∨ t = 26) → Blk w g t cs → g ∉ bs) : TAt w' rt base most L := by
  obtain ⟨v, h1, h2, h3⟩ := h
  exact ⟨v, ho.blk h1 (hn _ _ _ (.inl rfl) h1), own_same h2 (fun g cs _ hb => ho.blk hb (hn _ _ _ (.inr rfl) hb)), h3⟩
theorem caV_get {L : List Ent} {i : Nat} (h : i < L.length) : (caV L)[i]? = some (.int .i64 L[i].1) := by simp [caV, h]
theorem row_cell1 {w : World} {base e g n cap : Nat} {xs : List Value} (h : w.ownsRow base e 1 (.slice (some ⟨g, 0, none⟩) n cap) n xs) (i : Nat) (hi : i < n) : w.cell? ⟨g, i, none⟩ = xs[i]? := h.cellAt i (by omega)
set_option maxRecDepth 100000 in
theorem ref26_Cause (w : World) (rt base : Nat) (most : Int) (L : List Ent) (h : TAt w rt base most L) (id : Int) (hw : (Lit.int .i64 id).wf = true) :
    Calls Tryz.prog 41 #[.pointer (some ⟨rt, 0, none⟩), .int .i64 id] w fun e w' => e = .returned (.tuple #[.int .i64 (causeF L id).1, .int .i64 (causeF L id).2]) ∧ Below w.heap.size w w' := by
  obtain ⟨v, h1, h2, h3, h4⟩ := h
  obtain ⟨A, c, rfl⟩ := own_any h2
  have c1 := h1.cell 1
  have HB := Lib.hid (Below.refl w.heap.size w)
  by_cases hid : id < 1
  · have g1 : decide (id < 1) = true := decide_eq_true hid
    have hr : causeF L id = (0, 18) := by unfold causeF atL; rw [if_neg (by omega)]
    rw [hr]
    clear h1 h2 h3 h4 hid hw hr
    go_enter Tryz.func41, Tryz.ntmps41
    go_wp2
    go_returns
    exact ⟨rfl, HB.out⟩
  · have g1 : decide (id < 1) = false := decide_eq_false hid
    by_cases hl : (L.length : Int) < id
    · have g2 : decide ((L.length : Int) < id) = true := decide_eq_true hl
      have hr : causeF L id = (0, 18) := by unfold causeF atL; rw [if_pos (by omega), List.getElem?_eq_none (by omega)]
      rw [hr]
      clear h1 h2 h3 h4 hid hw hr hl
      go_enter Tryz.func41, Tryz.ntmps41
      go_wp2
      go_returns
      exact ⟨rfl, HB.out⟩
    · have g2 : decide ((L.length : Int) < id) = false := decide_eq_false hl
      obtain ⟨i, hi⟩ : ∃ i : Nat, id = (i : Int) + 1 := ⟨(id - 1).toNat, by omega⟩
      subst hi
      have hil : i < L.length := by omega
      have hr : causeF L ((i : Int) + 1) = (L[i].1, 0) := by unfold causeF; rw [atL_nat hil]
      rw [hr]
      obtain ⟨g, cap, e, _, _⟩ := row_shape h2 (by omega)
      injection e with e1 e2 e3
      subst e1 e3
      have c2 := row_cell1 h2 i hil
      rw [caV_get hil] at c2
      obtain ⟨y, hy⟩ : ∃ y, L[i].1 = y := ⟨_, rfl⟩
      rw [hy] at c2 ⊢
      have i0 : ¬ (i : Int) < 0 := by omega
      have i1 : (i : Int) < (L.length : Int) := by omega
      have w1 : IntKind.i64.wrap (i : Int) = (i : Int) := by rw [IntKind.wrap_i64]; omega
      clear h1 h2 h3 h4 hid hw hr hl e2 hy hil
      go_enter Tryz.func41, Tryz.ntmps41
      go_wp2
      go_returns
      exact ⟨rfl, HB.out⟩
theorem intV_encZ (l : List Int) : l.map intV = l.map encZ := rfl
theorem liveK_len (L : List Ent) (i : Nat) : (liveK (L.take i)).length ≤ i := Nat.le_trans (numK_len _) (by rw [List.length_take]; omega)
set_option maxRecDepth 100000 in
set_option maxHeartbeats 1000000 in
theorem ref26_Live (w : World) (rt base : Nat) (most : Int) (L : List Ent) (h : TAt w rt base most L) :
    Calls Tryz.prog 12 #[.pointer (some ⟨rt, 0, none⟩)] w fun e w' => ∃ v, e = .returned v ∧ IRow w' w.heap.size v (liveK L) ∧ Below w.heap.size w w' := by
  have H := Lib.hid h
  have HB := Lib.hid (And.intro (Below.refl w.heap.size w) (World.ownsRow_nil w w.heap.size 3 1))
  clear h
  go_enter Tryz.func12, Tryz.ntmps12
  go_wp2_with fail
  go_loopw [3, 4] (fun v3 v4 wr => ∃ i : Nat, v4 = .int .i64 (i : Int) ∧ i ≤ L.length ∧ Hid (Below w.heap.size w wr) ∧ Hid (IRow wr w.heap.size v3 (liveK (L.take i)))) (fun _ v4 _ => L.length - (ixOf v4).toNat)
  case atStart => exact ⟨0, rfl, Nat.zero_le _, Lib.hid HB.out.1, Lib.hid HB.out.2⟩
  case round =>
    obtain ⟨i, rfl, hi, HI, HR⟩ := hrel
    obtain ⟨v, h1, h2, h3, h4⟩ := (H.out.later (HI.out.mono (Nat.le_refl _)))
    obtain ⟨A, c, rfl⟩ := own_any h2
    have c1 := h1.cell 1
    by_cases hlt : i < L.length
    · have hli : (i : Int) < (L.length : Int) := by omega
      have hi0 : ¬ (i : Int) < 0 := by omega
      obtain ⟨i1, hi1⟩ : ∃ i1, i + 1 = i1 := ⟨_, rfl⟩
      have hw1 : wrap64 ((i : Int) + 1) = (i1 : Int) := by rw [wrap64_id (by omega) (by omega)]; omega
      have HI1 := Lib.hid hi1
      obtain ⟨g, cap, e, _, _⟩ := row_shape h2 (by omega)
      injection e with e1 e2 e3
      subst e1 e3
      have c2 := row_cell1 h2 i hlt
      rw [caV_get hlt] at c2
      obtain ⟨y, hy⟩ : ∃ y, L[i].1 = y := ⟨_, rfl⟩
      rw [hy] at c2
      have HLT := Lib.hid hlt
      have HLL := Lib.hid h3
      by_cases hy0 : y = 0
      · have hN : liveK (L.take (i + 1)) = liveK (L.take i) ++ [(i1 : Int)] := by
          rw [liveK_take_some hlt (by rw [hy]; exact hy0), ← hi1]
          rfl
        have HN := Lib.hid hN
        clear hN
        obtain ⟨ks, hks⟩ : ∃ ks, liveK (L.take i) = ks := ⟨_, rfl⟩
        have hkl : ks.length ≤ i := by rw [← hks]; exact liveK_len L i
        rw [hks] at HR HN
        obtain ⟨A3, c3, rfl, _⟩ := HR.out.shape
        have HKL := Lib.hid hkl
        have yb : (y == 0) = true := beq_iff_eq.2 hy0
        clear h1 h2 h3 h4 hi hlt e2 hy hy0 hi1 hks hkl
        go_wp2_with (at_builtin; refine wpList_app etInt rfl rfl rfl (HR.out.below ((Below.refl _ _).alloc (Nat.le_refl _) (.cells #[.int .i64 (i1 : Int)] 3))) rfl (m := 1) (news := [.int .i64 (i1 : Int)]) rfl ((Blk.new _ 3 #[.int .i64 (i1 : Int)]).sl 0) (by intro u hu; simp at hu; subst hu; rfl) (by have := HKL.out; have := HLT.out; have := HLL.out; omega) (by rw [World.size_alloc]; have := HI.out.size; omega) ?_; intro v5 w5 ho5 hg5 hor5; have HR5 := Lib.hid (IRow.app ho5); have HB5 := Lib.hid (below_app (HI.out.alloc HI.out.size (.cells #[.int .i64 (i1 : Int)] 3)) (HR.out.below ((Below.refl _ _).alloc (Nat.le_refl _) (.cells #[.int .i64 (i1 : Int)] 3))) hg5 (by rw [World.size_alloc]; have := HI.out.size; omega) (Nat.le_refl _)); clear ho5 hg5 hor5)
        go_roundw
        case rel => exact ⟨i1, (by first | exact congrArg (Value.int .i64) hw1 | exact congrArg (Value.int .i64) (by have := HI1.out; omega) | rfl), by have := HLT.out; have := HI1.out; omega, HB5, Lib.hid (by rw [← HI1.out, HN.out]; exact HR5.out)⟩
        case measure => first | exact meas_up hw1 HI1.out HLT.out | exact meas_up (x := (i1 : Int)) rfl HI1.out HLT.out | exact meas_up (x := (i : Int) + 1) (by have := HI1.out; omega) HI1.out HLT.out
      · have yb : (y == 0) = false := beq_eq_false_iff_ne.2 hy0
        have HN := Lib.hid (show liveK (L.take (i + 1)) = liveK (L.take i) from liveK_take_none hlt (by rw [hy]; exact hy0))
        clear h1 h2 h3 h4 hi hlt e2 hy hy0 hi1
        go_wp2_with fail
        go_roundw
        case rel => exact ⟨i1, (by first | exact congrArg (Value.int .i64) hw1 | exact congrArg (Value.int .i64) (by have := HI1.out; omega) | rfl), by have := HLT.out; have := HI1.out; omega, HI, Lib.hid (by rw [← HI1.out, HN.out]; exact HR.out)⟩
        case measure => first | exact meas_up hw1 HI1.out HLT.out | exact meas_up (x := (i1 : Int)) rfl HI1.out HLT.out | exact meas_up (x := (i : Int) + 1) (by have := HI1.out; omega) HI1.out HLT.out
    · have hli : ¬ (i : Int) < (L.length : Int) := by omega
      have HE := Lib.hid (show i = L.length by omega)
      clear h1 h2 h3 h4 hi hlt
      go_wp2_with fail
      go_returns
      exact ⟨_, rfl, by have h1 := HR.out; rw [HE.out, List.take_length] at h1; exact h1, HI.out⟩
set_option maxRecDepth 100000 in
theorem ref26_New (w : World) (most : Int) (h1 : 1 ≤ most) (h2 : most ≤ 64) :
    Calls Tryz.prog 19 #[.int .i64 most] w fun e w' => e = .returned (.tuple #[.pointer (some ⟨w.heap.size, 0, none⟩), .int .i64 0]) ∧ TAt w' w.heap.size w.heap.size most [] ∧ w' = w.alloc (.cells #[.int .i64 most, .slice none 0 0] 77) := by
  have g1 : decide (most < 1) = false := decide_eq_false (by omega)
  have g2 : decide (64 < most) = false := decide_eq_false (by omega)
  clear h1 h2
  go_enter Tryz.func19, Tryz.ntmps19
  go_wp2
  go_returns
  exact ⟨rfl, ⟨_, Blk.new _ _ _, World.ownsRow_nil _ _ _ _, by simp, Nat.le_refl _⟩, rfl⟩
end Go.Proofs.YtklelheejopfmaaGreat
