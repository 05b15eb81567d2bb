/- package model: over, Close, Evict, Status, Live, New, Open. -/
import Derived.Test.YtklelheejopfmaaMeth
namespace Go.Proofs.Ytklelheejopfmaa
open Go Go.RowKit Go.Maps
attribute [local go_sem] Oper.semAt_some
theorem set_dead {L : List Ent} {id c : Int} {x : Ent} (h : atL L id = some x) (hc : c ≠ 0) (k : Kn) : (numD gL L).del (.int .i64 id) = numD gL (L.set (id - 1).toNat (c, k)) := by
  obtain ⟨h1, h2⟩ := atL_wf h
  have h3 := numD_del (g := gL) L (id - 1).toNat (c, k) (by omega) (by unfold gL; rw [if_neg hc])
  have e : (((id - 1).toNat : Nat) : Int) + 1 = id := by omega
  rwa [e] at h3
theorem live_dead (L : List Ent) (i : Nat) (c : Int) (hc : c ≠ 0) (k : Kn) : (liveK (L.set i (c, k))).length ≤ (liveK L).length := by
  unfold liveK
  suffices ∀ s, (numK gL s (L.set i (c, k))).length ≤ (numK gL s L).length from this 0
  induction L generalizing i with
  | nil => intro s; simp
  | cons x L ih =>
    intro s
    cases i with
    | zero =>
      rw [List.set_cons_zero, numK, numK]
      have : (gL (c, k)).isSome = false := by unfold gL; rw [if_neg hc]; rfl
      rw [this]; simp
    | succ i =>
      rw [List.set_cons_succ, numK, numK, List.length_append, List.length_append]
      have := ih i (s + 1)
      omega
set_option maxRecDepth 100000 in
theorem mod_over (w : World) (bm bt tb lb : Nat) (c : Cfg) (B : Int) (L : List Ent) (h : MAt w bm bt tb lb c B L) (id cs : Int) (hw : (Lit.int .i64 id).wf = true) (hc : cs ≠ 0) (k : Kn) (ha : atL L id = some (0, k)) :
    Calls Try.prog 32 #[.pointer (some ⟨bm, 0, none⟩), .int .i64 id, .int .i64 cs] w fun e w' => (∃ v, e = .returned v) ∧ MAt w' bm bt tb lb c B (L.set (id - 1).toNat (cs, k)) ∧ Only [tb, lb] w w' := by
  have H := Lib.hid h
  have m5 := h.1.cell 5
  have CE := Lib.hid (table_End_ok w bt tb c.sess L h.2.1 id cs hw hc k ha)
  have HK := Lib.hid (key_int id hw)
  have HD := Lib.hid (set_dead ha hc k)
  have HL := Lib.hid (live_dead L (id - 1).toNat cs hc k)
  have HN := Lib.hid (h.kn ha)
  obtain ⟨i, hi⟩ : ∃ i, (id - 1).toNat = i := ⟨_, rfl⟩
  rw [hi] at CE HD HL ⊢
  clear h hw hc ha hi
  go_enter Try.func32, Try.ntmps32
  go_wp2_with (first
    | (go_at_call 41; refine CE.out.mono ?_; rintro e w1 ⟨rfl, ht1, ho1⟩; have HT1 := Lib.hid ht1; have HO1 := Lib.hid ho1; have hb1 := ho1.blk H.out.1 (by simp; exact (own_ne_blk H.out.2.1.2.1 H.out.1).symm); have y6 := hb1.cell 6; have HB1 := Lib.hid hb1; have HL1 := Lib.hid (ho1.own H.out.2.2.1 (by simpa using H.out.2.2.2.1.symm)); clear ht1 ho1 hb1)
    | (at_delete; refine wpList_delete_own _ rfl _ _ 47 3 rfl 59 keyed_int Try.underlying47 heldR lb L.length _ rfl HL1.out (.int .i64 id) (.int .i64 id) rfl HK.out ?_; intro w5 hown5 hturn5; rw [HD.out] at hown5; have HO5 := Lib.hid hown5; have HU5 := Lib.hid hturn5; clear hown5 hturn5))
  go_end0
  have hlen : (L.set i (cs, k)).length = L.length := by simp
  have hO5 : Only [lb] w1 w5 := Only.turned (Only.of_below (Below.refl _ _)) HU5.out (by simp)
  refine ⟨⟨_, rfl⟩, ⟨blk_turned HB1.out HU5.out, HT1.out.only hO5 ?_ ?_, by rw [hlen]; exact HO5.out, H.out.2.2.2.1, H.out.2.2.2.2.1, ?_, ?_, H.out.2.2.2.2.2.2.2⟩, (HO1.out.mono (by simp)).trans (hO5.mono (by simp))⟩
  · simp; exact (own_ne_blk HL1.out HT1.out.1).symm
  · simpa using H.out.2.2.2.1
  · intro x hx
    rcases mem_set hx with hx | rfl
    · exact H.out.2.2.2.2.2.1 x hx
    · exact HN.out
  · have h1 := H.out.2.2.2.2.2.2.1
    have h2 := HL.out
    omega
def outL (L : List Ent) (id cs : Int) : Int × List Ent := match atL L id with
  | none => (18, L)
  | some x => if x.1 ≠ 0 then (x.1, L) else (0, L.set (id - 1).toNat (cs, x.2))
theorem outL_why {L : List Ent} {id cs : Int} (h : whyF L id ≠ 0) : outL L id cs = (whyF L id, L) := by
  unfold outL
  unfold whyF at h ⊢
  cases ha : atL L id with
  | none => rfl
  | some x => rw [ha] at h; dsimp only at h ⊢; rw [if_pos h]
theorem outL_live {L : List Ent} {id cs : Int} {k : Kn} (ha : atL L id = some (0, k)) : outL L id cs = (0, L.set (id - 1).toNat (cs, k)) := by
  unfold outL; rw [ha]; dsimp only; rw [if_neg (by simp)]
theorem set_same {L : List Ent} {id : Int} {x : Ent} (h : atL L id = some x) : L.set (id - 1).toNat x = L := by
  unfold atL at h
  split at h
  · obtain ⟨h1, h2⟩ := List.getElem?_eq_some_iff.1 h
    rw [← h2]; exact List.set_getElem_self h1
  · cases h
set_option maxRecDepth 100000 in
theorem mod_out (w : World) (bm bt tb lb : Nat) (c : Cfg) (B : Int) (L : List Ent) (h : MAt w bm bt tb lb c B L) (id cs : Int) (hw : (Lit.int .i64 id).wf = true) (hc : cs ≠ 0) :
    Calls Try.prog 29 #[.pointer (some ⟨bm, 0, none⟩), .int .i64 id, .int .i64 cs] w fun e w' => e = .returned (.int .i64 (outL L id cs).1) ∧ MAt w' bm bt tb lb c B (outL L id cs).2 ∧ Only [tb, lb] w w' := by
  have H := Lib.hid h
  by_cases hy : whyF L id = 0
  · obtain ⟨k, ha⟩ := why_live hy
    rw [outL_live ha]
    have CA := Lib.hid (ask_out_ok w bm bt tb lb c B L h id hw k k ha 0 B (by omega) h.2.2.2.2.2.2.2 (h.kn ha) (fun W _ => mod_out1 W k))
    rw [set_same ha] at CA
    have CO := Lib.hid (fun W (hW : MAt W bm bt tb lb c B L) => mod_over W bm bt tb lb c B L hW id cs hw hc k ha)
    clear h hw hc ha hy
    go_enter Try.func29, Try.ntmps29
    go_wp2_with (first
      | (go_at_call 24; refine CA.out.mono ?_; rintro e w1 ⟨rfl, hm1, ho1⟩; have HM1 := Lib.hid hm1; have HO1 := Lib.hid ho1; clear hm1 ho1)
      | (go_at_call 32; refine (CO.out _ HM1.out).mono ?_; rintro e w2 ⟨⟨v, rfl⟩, hm2, ho2⟩; have HM2 := Lib.hid hm2; have HO2 := Lib.hid ho2; clear hm2 ho2))
    go_ret
    exact ⟨rfl, HM2.out, (HO1.out.mono (by simp)).trans HO2.out⟩
  · rw [outL_why hy]
    have CA := Lib.hid (fun fv => ask_why w bm bt tb lb c B L h id hw fv hy)
    have hyb : (whyF L id == 0) = false := beq_eq_false_iff_ne.2 hy
    clear h hw hc hy
    go_enter Try.func29, Try.ntmps29
    go_wp2_with (go_at_call 24; refine (CA.out _).mono ?_; rintro e w1 ⟨rfl, hb1⟩; have HB1 := Lib.hid hb1; clear hb1)
    go_ret
    exact ⟨rfl, H.out.later HB1.out, Only.of_below HB1.out⟩
theorem mod_Close (w : World) (bm bt tb lb : Nat) (c : Cfg) (B : Int) (L : List Ent) (h : MAt w bm bt tb lb c B L) (id : Int) (hw : (Lit.int .i64 id).wf = true) :
    Calls Try.prog 11 #[.pointer (some ⟨bm, 0, none⟩), .int .i64 id] w fun e w' => e = .returned (.int .i64 (outL L id 21).1) ∧ MAt w' bm bt tb lb c B (outL L id 21).2 ∧ Only [tb, lb] w w' := by
  have CO := Lib.hid (mod_out w bm bt tb lb c B L h id 21 hw (by decide))
  clear h hw
  go_enter Try.func11, Try.ntmps11
  go_wp2_with (go_at_call 29; refine CO.out.mono ?_; rintro e w1 ⟨rfl, hr⟩; have HR := Lib.hid hr; clear hr)
  go_ret
  exact ⟨rfl, HR.out⟩
theorem mod_Evict (w : World) (bm bt tb lb : Nat) (c : Cfg) (B : Int) (L : List Ent) (h : MAt w bm bt tb lb c B L) (id : Int) (hw : (Lit.int .i64 id).wf = true) :
    Calls Try.prog 23 #[.pointer (some ⟨bm, 0, none⟩), .int .i64 id] w fun e w' => e = .returned (.int .i64 (outL L id 22).1) ∧ MAt w' bm bt tb lb c B (outL L id 22).2 ∧ Only [tb, lb] w w' := by
  have CO := Lib.hid (mod_out w bm bt tb lb c B L h id 22 hw (by decide))
  clear h hw
  go_enter Try.func23, Try.ntmps23
  go_wp2_with (go_at_call 29; refine CO.out.mono ?_; rintro e w1 ⟨rfl, hr⟩; have HR := Lib.hid hr; clear hr)
  go_ret
  exact ⟨rfl, HR.out⟩
theorem mod_Live (w : World) (bm bt tb lb : Nat) (c : Cfg) (B : Int) (L : List Ent) (h : MAt w bm bt tb lb c B L) :
    Calls Try.prog 15 #[.pointer (some ⟨bm, 0, none⟩)] w fun e w' => ∃ v, e = .returned v ∧ w'.ownsRow w.heap.size 3 1 v (liveK L).length ((liveK L).map encZ) ∧ Below w.heap.size w w' := by
  have H := Lib.hid h
  have m5 := h.1.cell 5
  have CL := Lib.hid (table_Live w bt tb c.sess L h.2.1)
  clear h
  go_enter Try.func15, Try.ntmps15
  go_wp2_with (first
    | (go_at_call 33; refine (mod_none _ _ _ _ _ _ _ _ H.out).mono ?_; rintro e w' ⟨rfl, rfl⟩)
    | (go_at_call 34; refine CL.out.mono ?_; rintro e w1 ⟨v, rfl, hr⟩; have HR := Lib.hid hr; clear hr))
  go_ret
  exact ⟨v, rfl, HR.out⟩
end Go.Proofs.Ytklelheejopfmaa
