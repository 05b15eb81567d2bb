/- Step0, Ref08c, Ref08d, Ref08e, Ref12, Ref12b, Ref12c, Ref19, Ref19c -/
import Derived.Test.YtcojnigkgbmbmaaGreatDoorR26
import Derived.Test.YtcojnigkgbmbmaaGreatDoorR27
import Derived.Test.YtcojnigkgbmbmaaGreatDoorR23
import Derived.Test.YtcojnigkgbmbmaaGreatDoorR02
import Derived.Test.YtcojnigkgbmbmaaGreatDoorR18
import Derived.Test.YtcojnigkgbmbmaaGreatDoorR08
namespace Go.Proofs.YtcojnigkgbmbmaaGreatDoor
open Go Go.RowKit
attribute [local go_sem] Oper.semAt_some
theorem rd_steps (g : Nat) (w : World) : Calls Tryz.prog 34 #[.pointer (some ⟨g, 0, none⟩)] w fun e w' => e = .returned (.func (.func 71) #[] #[.pointer (some ⟨w.heap.size, 0, none⟩)]) ∧ w' = w.alloc (.cells #[.pointer (some ⟨g, 0, none⟩)] 57) := by
  go_enter Tryz.func34, Tryz.ntmps34
  go_wp2_with fail
  go_ret
  exact ⟨rfl, rfl⟩
theorem rd_part (g k : Nat) (fr : Int) (w : World) : Calls Tryz.prog 74 #[.pointer (some ⟨g, 0, none⟩), .pointer (some ⟨g, k, none⟩), .int .i64 fr] w fun e w' => e = .returned (.func (.func 111) #[] #[.pointer (some ⟨w.heap.size, 0, none⟩), .pointer (some ⟨w.heap.size + 2, 0, none⟩), .pointer (some ⟨w.heap.size + 1, 0, none⟩)]) ∧
    w' = ((w.alloc (.cells #[.pointer (some ⟨g, 0, none⟩)] 57)).alloc (.cells #[.pointer (some ⟨g, k, none⟩)] 102)).alloc (.cells #[.int .i64 fr] 3) := by
  go_enter Tryz.func74, Tryz.ntmps74
  go_wp2_with fail
  go_ret
  exact ⟨by simp [Nat.add_assoc], rfl⟩
end Go.Proofs.YtcojnigkgbmbmaaGreatDoor
namespace Go.Proofs.YtcojnigkgbmbmaaGreatDoor
open Go Go.RowKit
attribute [local go_sem] Oper.semAt_some
theorem ref01_Read_more (A : Option Addr) (n c : Nat) (i m : Int) (w : World) (h0 : 0 ≤ i) (hm : 0 ≤ m) (hm2 : m ≤ 32) (h1 : 8 * n < i + m) (hi : i ≤ 9223372036854775807) (hsz : n ≤ 2 ^ 47) :
   Calls Tryz.prog 39 #[.slice A n c, .int .i64 i, .int .i64 m] w fun e w' => e = .returned (.tuple #[.int .i64 0, .int .i64 5]) ∧ w = w' := by
  have e1 : decide (i < 0) = false := by simpa using h0
  have e2 : decide (m < 0) = false := by simpa using hm
  have e3 : ¬ (32 : Int) < m := by omega
  by_cases e4 : (8 * (n : Int)) < i
  · go_enter Tryz.func39, Tryz.ntmps39
    go_wp2_with (go_at_call 36; refine (ref01_Count _ _ _ _ hsz).mono ?_; rintro e w' ⟨rfl, rfl⟩)
    go_ret2
    exact ⟨rfl, rfl⟩
  · have e5 : (8 * (n : Int)) - i < m := by omega
    have hw : IntKind.i64.wrap (8 * (n : Int) - i) = 8 * (n : Int) - i := by rw [IntKind.wrap_i64]; omega
    go_enter Tryz.func39, Tryz.ntmps39
    go_wp2_with (go_at_call 36; refine (ref01_Count _ _ _ _ hsz).mono ?_; rintro e w' ⟨rfl, rfl⟩)
    go_ret2
    exact ⟨rfl, rfl⟩
/-- what a code of the table is. -/
theorem tree8 {l : List UInt8} {i : Int} {first : Bool} (h : (treeR (cs8 first) (ns8 first) l i).2.2 = 0) : 0 ≤ i ∧ i + (treeR (cs8 first) (ns8 first) l i).2.1 ≤ 8 * (l.length : Int) ∧ 1 ≤ (treeR (cs8 first) (ns8 first) l i).2.1 ∧ (treeR (cs8 first) (ns8 first) l i).2.1 ≤ 13 ∧
    ((treeR (cs8 first) (ns8 first) l i).1 = 1001 ∨ (treeR (cs8 first) (ns8 first) l i).1 = 1000 ∨ ∃ k : Nat, k < 63 ∧ (treeR (cs8 first) (ns8 first) l i).1 = (k : Int)) := by
  have h0 : 0 ≤ i := by
    rcases Int.lt_or_le i 0 with h1 | h1
    · unfold treeR at h; rw [if_pos h1] at h; cases h
    · exact h1
  have h8 : i ≤ 8 * (l.length : Int) := by
    rcases Int.lt_or_le (8 * (l.length : Int)) i with h1 | h1
    · exfalso
      have e : treeR (cs8 first) (ns8 first) l i = (0, 0, 5) := by
        unfold treeR
        rw [if_neg (by omega), show min 24 (8 * l.length - i.toNat) = 0 by omega]
        cases first <;> kernel_rfl
      rw [e] at h
      cases h
    · exact h1
  have he := tree_end h0 h8 h
  obtain ⟨j, hj, hn, hl⟩ := tree_got h
  have h13 : (cs8 first)[j].length ≤ 13 ∧ 1 ≤ (cs8 first)[j].length := by
    have : (cs8 first).all (fun c => decide (c.length ≤ 13) && decide (1 ≤ c.length)) = true := by cases first <;> kernel_rfl
    simpa using List.all_eq_true.1 this _ (List.getElem_mem hj)
  refine ⟨h0, he, by omega, by omega, ?_⟩
  rcases cs8_get first j hj with ⟨h63, _, h3⟩ | ⟨_, _, _, h3⟩ | ⟨_, h3⟩
  · rw [h3] at hn
    exact .inr (.inr ⟨j, h63, (Option.some.inj hn).symm⟩)
  · rw [h3] at hn
    exact .inl (Option.some.inj hn).symm
  · rw [h3] at hn
    exact .inr (.inl (Option.some.inj hn).symm)
theorem tab8_get (k : Nat) (h : k < 63) : ∃ p, ((tabL false).getD k ((0, 0), [])).1 = p ∧ prs8[k]? = some p ∧ 0 ≤ p.1 ∧ p.1 ≤ 63 ∧ 1 ≤ p.2 ∧ p.2 ≤ 127 := by
  have hk : k < (tabL false).length := by rw [tab_len]; exact h
  refine ⟨(tabL false)[k].1, ?_, ?_, ?_⟩
  · rw [List.getD_eq_getElem?_getD, List.getElem?_eq_getElem hk, Option.getD_some]
  · unfold prs8
    rw [List.getElem?_map, List.getElem?_eq_getElem hk]
    rfl
  · have := List.all_eq_true.1 (tab_range false) _ (List.getElem_mem hk)
    simpa [and_assoc] using this
def G8Post (r : (Int × Int) × Bool × Int × Int) (w : World) (e : Ending) (w' : World) : Prop := e = .returned (.tuple #[.agg #[.int .i64 r.1.1, .int .i64 r.1.2], .bool r.2.1, .int .i64 r.2.2.1, .int .i64 r.2.2.2]) ∧ Below w.heap.size w w'
set_option maxRecDepth 100000 in
set_option maxHeartbeats 4000000 in
theorem ref08_Get (A : Option Addr) (n c : Nat) (l : List UInt8) (i : Int) (first : Bool) (w : World) (hA : Sl w A (l.map byteV)) (hn : l.length = n) (hsz : n ≤ 2 ^ 47) (hi : -9223372036854775808 ≤ i ∧ i ≤ 9223372036854775807) :
    Calls Tryz.prog 86 #[.slice A n c, .int .i64 i, .bool first] w (G8Post (get8 l i first) w) := by
  have RD := Lib.hid (fun (W : World) (hA : Sl W A (l.map byteV)) => ref08_read A n c l i first W hA hn hsz hi)
  have HT := Lib.hid (@tree8 l i first)
  obtain ⟨R, hR⟩ : ∃ R, get8 l i first = R := ⟨_, rfl⟩
  rw [hR]
  unfold get8 at hR
  dsimp only at hR
  generalize treeR (cs8 first) (ns8 first) l i = q at *
  obtain ⟨q1, q2, q3⟩ := q
  dsimp only at hR HT RD
  have HR := Lib.hid hR; have HA := Lib.hid hA; have HN := Lib.hid hn; have HSZ := Lib.hid hsz
  have B0 := (Below.refl _ w).alloc (Nat.le_refl _) (.cells #[.int .i64 0, .int .i64 0] 109)
  have Z0 := Blk.new w 109 #[.int .i64 0, .int .i64 0]
  have HB0 := Lib.hid B0; have HZ0 := Lib.hid Z0
  clear hA hn hsz hR B0 Z0
  go_enter Tryz.func86, Tryz.ntmps86
  go_wp2_with fail
  refine (RD.out _ (HA.out.below HB0.out)).mono ?_
  rintro e w1 ⟨rfl, hb⟩
  have HB1 := Lib.hid (HB0.out.trans (hb.mono HB0.out.size))
  have z1 := HZ0.out.below hb HZ0.out.lt
  have HZ1 := Lib.hid z1
  have c0 := z1.cell 0; have c1 := z1.cell 1; have f0 := z1.frozen 0; have f1 := z1.frozen 1
  (try dsimp only at c0 c1)
  obtain ⟨g6, hg6⟩ : ∃ g6, w.heap.size = g6 := ⟨_, rfl⟩
  have HG6 := Lib.hid hg6
  have HGL := Lib.hid (show w.heap.size ≤ g6 by omega)
  rw [hg6] at c0 c1 f0 f1 HZ1 ⊢
  clear hb z1 hg6 HZ0 HB0
  cases hq : (q3 != 0) with
  | true =>
    have hr2 := HR.out
    rw [if_pos hq] at hr2
    subst hr2
    go_wp2_with fail
    have s := (HZ1.out.set_ 0 (.int .i64 (0))).set_ 1 (.int .i64 (0))
    have s0 := s.cell 0; have s1 := s.cell 1
    simp at s0 s1
    refine bodyPost_ret (by simp [results, Tryz.results86, go_sem, s0, s1]; try rfl) rfl ?_
    exact ⟨rfl, (HB1.out.setCell (p := ⟨g6, 0, none⟩) HGL.out _).setCell (p := ⟨g6, 1, none⟩) HGL.out _⟩
  | false =>
    have hr2 := HR.out
    rw [if_neg (by rw [hq]; decide)] at hr2
    have hq0 : q3 = 0 := by simpa using hq
    subst hq0
    obtain ⟨hi0, hend, h1, h13, hk⟩ := HT.out rfl
    have hn := HN.out
    have hsz := HSZ.out
    rw [hn] at hr2 hend
    have HR2 := Lib.hid hr2
    have HI0 := Lib.hid hi0; have HEND := Lib.hid hend; have H1 := Lib.hid h1; have H13 := Lib.hid h13
    clear hi0 hend h1 h13 hq hr2 HR HT RD hn hsz
    rcases hk with rfl | rfl | ⟨k, hk, rfl⟩
    · have hr2 := HR2.out
      rw [if_pos (by decide)] at hr2
      subst hr2
      go_wp2_with fail
      have s := (HZ1.out.set_ 0 (.int .i64 (0))).set_ 1 (.int .i64 (0))
      have s0 := s.cell 0; have s1 := s.cell 1
      simp at s0 s1
      refine bodyPost_ret (by simp [results, Tryz.results86, go_sem, s0, s1]; try rfl) rfl ?_
      exact ⟨rfl, (HB1.out.setCell (p := ⟨g6, 0, none⟩) HGL.out _).setCell (p := ⟨g6, 1, none⟩) HGL.out _⟩
    · have hr2 := HR2.out
      rw [if_neg (by decide), if_pos (by decide)] at hr2
      have hw : IntKind.i64.wrap (i + q2) = i + q2 := by have := HEND.out; have := HI0.out; have := H1.out; have := HSZ.out; rw [IntKind.wrap_i64]; omega
      have HA1 := Lib.hid (HA.out.below HB1.out)
      rcases Int.lt_or_le (8 * (n : Int)) (i + q2 + 14) with hm | hm
      · rw [if_pos hm] at hr2
        subst hr2
        have CR := Lib.hid (ref01_Read_more A n c (i + q2) 14 w1 (by have := HI0.out; have := H1.out; omega) (by decide) (by decide) hm (by have := HEND.out; have := HSZ.out; omega) HSZ.out)
        clear hm
        go_wp2_with (go_at_call 39; refine CR.out.mono ?_; rintro e w' ⟨rfl, rfl⟩)
        have s := (HZ1.out.set_ 0 (.int .i64 (0))).set_ 1 (.int .i64 (0))
        have s0 := s.cell 0; have s1 := s.cell 1
        simp at s0 s1
        refine bodyPost_ret (by simp [results, Tryz.results86, go_sem, s0, s1]; try rfl) rfl ?_
        exact ⟨rfl, (HB1.out.setCell (p := ⟨g6, 0, none⟩) HGL.out _).setCell (p := ⟨g6, 1, none⟩) HGL.out _⟩
      · rw [if_neg (by omega)] at hr2
        have CR := Lib.hid (ref01_Read A n c l (i + q2) 14 w1 HA1.out HN.out (by have := HI0.out; have := H1.out; omega) (by decide) (by decide) hm HSZ.out)
        rw [show (14 : Int).toNat = 14 from rfl] at CR
        have hx := numN_lt l (i + q2).toNat 14
        generalize numN l (i + q2).toNat 14 = x at hr2 hx CR
        have hx2 : x < 16384 := hx
        obtain ⟨u, hu⟩ : ∃ u, x % 256 = u := ⟨_, rfl⟩
        obtain ⟨v, hv⟩ : ∃ v, x / 256 = v := ⟨_, rfl⟩
        rw [hu, hv] at hr2
        have hui : (x : Int) % 256 = (u : Int) := by omega
        have hvi : (x : Int) / 256 = (v : Int) := by omega
        have hu256 : u < 256 := by omega
        have hx0 : (0 : Int) ≤ (x : Int) := by omega
        have hw14 : IntKind.i64.wrap (q2 + 14) = q2 + 14 := by have := H1.out; have := H13.out; rw [IntKind.wrap_i64]; omega
        have hv63 : v < 64 := by omega
        clear hm hx hx2 hu hv
        by_cases u0 : u = 0
        · subst u0
          rw [if_pos (by decide)] at hr2
          subst hr2
          go_wp2_with (go_at_call 39; refine CR.out.mono ?_; rintro e w' ⟨rfl, rfl⟩)
          have s := (HZ1.out.set_ 0 (.int .i64 (0))).set_ 1 (.int .i64 (0))
          have s0 := s.cell 0; have s1 := s.cell 1
          simp at s0 s1
          refine bodyPost_ret (by simp [results, Tryz.results86, go_sem, s0, s1]; try rfl) rfl ?_
          exact ⟨rfl, (HB1.out.setCell (p := ⟨g6, 0, none⟩) HGL.out _).setCell (p := ⟨g6, 1, none⟩) HGL.out _⟩
        by_cases u1 : u = 128
        · subst u1
          rw [if_pos (by decide)] at hr2
          subst hr2
          go_wp2_with (go_at_call 39; refine CR.out.mono ?_; rintro e w' ⟨rfl, rfl⟩)
          have s := (HZ1.out.set_ 0 (.int .i64 (0))).set_ 1 (.int .i64 (0))
          have s0 := s.cell 0; have s1 := s.cell 1
          simp at s0 s1
          refine bodyPost_ret (by simp [results, Tryz.results86, go_sem, s0, s1]; try rfl) rfl ?_
          exact ⟨rfl, (HB1.out.setCell (p := ⟨g6, 0, none⟩) HGL.out _).setCell (p := ⟨g6, 1, none⟩) HGL.out _⟩
        rw [if_neg (by simp; omega)] at hr2
        have e0 : ((u : Int) == 0) = false := by rw [beq_eq_false_iff_ne]; omega
        have e1 : ((u : Int) == 128) = false := by rw [beq_eq_false_iff_ne]; omega
        by_cases u2 : 128 < u
        · have e2 : decide (128 < (u : Int)) = true := by simp; omega
          have hw3 : IntKind.i64.wrap ((u : Int) - 256) = (u : Int) - 256 := by rw [IntKind.wrap_i64]; omega
          have h8 : i8 u = (u : Int) - 256 := by unfold i8; rw [if_neg (by omega)]
          rw [h8] at hr2
          subst hr2
          clear u0 u1 u2 h8
          go_wp2_with (go_at_call 39; refine CR.out.mono ?_; rintro e w' ⟨rfl, rfl⟩)
          have s := (HZ1.out.set_ 0 (.int .i64 ((v : Int)))).set_ 1 (.int .i64 ((u : Int) - 256))
          have s0 := s.cell 0; have s1 := s.cell 1
          simp at s0 s1
          refine bodyPost_ret (by simp [results, Tryz.results86, go_sem, s0, s1]; try rfl) rfl ?_
          exact ⟨rfl, (HB1.out.setCell (p := ⟨g6, 0, none⟩) HGL.out _).setCell (p := ⟨g6, 1, none⟩) HGL.out _⟩
        · have e2 : decide (128 < (u : Int)) = false := by simp; omega
          have h8 : i8 u = (u : Int) := by unfold i8; rw [if_pos (by omega)]
          rw [h8] at hr2
          subst hr2
          clear u0 u1 u2 h8
          go_wp2_with (go_at_call 39; refine CR.out.mono ?_; rintro e w' ⟨rfl, rfl⟩)
          have s := (HZ1.out.set_ 0 (.int .i64 ((v : Int)))).set_ 1 (.int .i64 ((u : Int)))
          have s0 := s.cell 0; have s1 := s.cell 1
          simp at s0 s1
          refine bodyPost_ret (by simp [results, Tryz.results86, go_sem, s0, s1]; try rfl) rfl ?_
          exact ⟨rfl, (HB1.out.setCell (p := ⟨g6, 0, none⟩) HGL.out _).setCell (p := ⟨g6, 1, none⟩) HGL.out _⟩
    · have hr2 := HR2.out
      have hk1 : ((k : Int) == 1001) = false := by rw [beq_eq_false_iff_ne]; omega
      have hk2 : ((k : Int) == 1000) = false := by rw [beq_eq_false_iff_ne]; omega
      rw [hk1, hk2, if_neg Bool.false_ne_true, if_neg Bool.false_ne_true] at hr2
      have hw : IntKind.i64.wrap (i + q2) = i + q2 := by have := HEND.out; have := HI0.out; have := H1.out; have := HSZ.out; rw [IntKind.wrap_i64]; omega
      have HA1 := Lib.hid (HA.out.below HB1.out)
      rcases Int.lt_or_le (8 * (n : Int)) (i + q2 + 1) with hm | hm
      · rw [if_pos hm] at hr2
        subst hr2
        have CR := Lib.hid (ref01_Read_more A n c (i + q2) 1 w1 (by have := HI0.out; have := H1.out; omega) (by decide) (by decide) hm (by have := HEND.out; have := HSZ.out; omega) HSZ.out)
        clear hm
        go_wp2_with (go_at_call 39; refine CR.out.mono ?_; rintro e w' ⟨rfl, rfl⟩)
        have s := (HZ1.out.set_ 0 (.int .i64 (0))).set_ 1 (.int .i64 (0))
        have s0 := s.cell 0; have s1 := s.cell 1
        simp at s0 s1
        refine bodyPost_ret (by simp [results, Tryz.results86, go_sem, s0, s1]; try rfl) rfl ?_
        exact ⟨rfl, (HB1.out.setCell (p := ⟨g6, 0, none⟩) HGL.out _).setCell (p := ⟨g6, 1, none⟩) HGL.out _⟩
      · rw [if_neg (by omega)] at hr2
        have CR := Lib.hid (ref01_Read A n c l (i + q2) 1 w1 HA1.out HN.out (by have := HI0.out; have := H1.out; omega) (by decide) (by decide) hm HSZ.out)
        rw [show (1 : Int).toNat = 1 from rfl] at CR
        have hx := numN_lt l (i + q2).toNat 1
        generalize numN l (i + q2).toNat 1 = x at hr2 hx CR
        obtain ⟨pp, hp, hp8, hp1, hp2, hp3, hp4⟩ := tab8_get k hk
        rw [Int.toNat_natCast, hp] at hr2
        have hwq : IntKind.i64.wrap (q2 + 1) = q2 + 1 := by have := H1.out; have := H13.out; rw [IntKind.wrap_i64]; omega
        have HP8 := Lib.hid hp8
        clear hm hp hp8
        go_wp2_with (go_at_call 39; refine CR.out.mono ?_; rintro e w' ⟨rfl, rfl⟩)
        refine (ref08_Coded w1).mono ?_
        rintro e w3 ⟨w2, v1, v2, hb3, rfl, hz⟩
        obtain ⟨A8, c8, q8, s8⟩ := own_sl2 hz.2.2.head
        dsimp only at q8
        subst q8
        obtain ⟨ad, rfl, _, d0, d1⟩ := sl_pair s8 k (by rw [prs8_len]; exact hk)
        have hpk : prs8[k]'(by rw [prs8_len]; exact hk) = pp := by
          have := HP8.out
          rw [List.getElem?_eq_getElem (by rw [prs8_len]; exact hk)] at this
          exact Option.some.inj this
        rw [hpk] at d0 d1
        have hb := hb3.trans (hz.1.mono hb3.size)
        have HB3 := Lib.hid ((HB1.out.trans (hb.mono HB1.out.size)).alloc (HB1.out.trans (hb.mono HB1.out.size)).size (.cells #[.int .i64 pp.1, .int .i64 pp.2] 109))
        have HB4 := Lib.hid ((HB1.out.trans (hb.mono HB1.out.size)).alloc (HB1.out.trans (hb.mono HB1.out.size)).size (.cells #[.int .i64 pp.1, .int .i64 (-pp.2)] 109))
        have z3 := HZ1.out.below hb HZ1.out.lt
        have HZ3 := Lib.hid (z3.alloc (.cells #[.int .i64 pp.1, .int .i64 pp.2] 109))
        have HZ4 := Lib.hid (z3.alloc (.cells #[.int .i64 pp.1, .int .i64 (-pp.2)] 109))
        have hk63 : ((k : Int) < 63) := by omega
        rw [prs8_len]
        clear c0 c1 f0 f1 hz s8 hpk hb hb3 HP8 HZ1
        by_cases hx1 : x = 1
        · subst hx1
          rw [if_pos (by decide)] at hr2
          subst hr2
          have z4 := HZ4.out
          have c0 := z4.cell 0; have c1 := z4.cell 1; have f0 := z4.frozen 0; have f1 := z4.frozen 1
          (try dsimp only at c0 c1)
          have hwn : IntKind.i64.wrap (-pp.2) = -pp.2 := by rw [IntKind.wrap_i64]; omega
          clear z4 z3
          obtain ⟨pa, pb⟩ := pp
          dsimp only at *
          go_wp2_with fail
          have s := (HZ4.out.set_ 0 (.int .i64 (pa))).set_ 1 (.int .i64 (-pb))
          have s0 := s.cell 0; have s1 := s.cell 1
          simp at s0 s1
          refine bodyPost_ret (by simp [results, Tryz.results86, go_sem, s0, s1]; try rfl) rfl ?_
          exact ⟨rfl, (HB4.out.setCell (p := ⟨g6, 0, none⟩) HGL.out _).setCell (p := ⟨g6, 1, none⟩) HGL.out _⟩
        · have hx0 : x = 0 := by omega
          subst hx0
          rw [if_neg (by decide)] at hr2
          subst hr2
          have z4 := HZ3.out
          have c0 := z4.cell 0; have c1 := z4.cell 1; have f0 := z4.frozen 0; have f1 := z4.frozen 1
          (try dsimp only at c0 c1)
          clear z4 z3
          obtain ⟨pa, pb⟩ := pp
          dsimp only at *
          go_wp2_with fail
          have s := (HZ3.out.set_ 0 (.int .i64 (pa))).set_ 1 (.int .i64 (pb))
          have s0 := s.cell 0; have s1 := s.cell 1
          simp at s0 s1
          refine bodyPost_ret (by simp [results, Tryz.results86, go_sem, s0, s1]; try rfl) rfl ?_
          exact ⟨rfl, (HB3.out.setCell (p := ⟨g6, 0, none⟩) HGL.out _).setCell (p := ⟨g6, 1, none⟩) HGL.out _⟩
end Go.Proofs.YtcojnigkgbmbmaaGreatDoor
namespace Go.Proofs.YtcojnigkgbmbmaaGreatDoor
open Go Go.RowKit
attribute [local go_sem] Oper.semAt_some
end Go.Proofs.YtcojnigkgbmbmaaGreatDoor
namespace Go.Proofs.YtcojnigkgbmbmaaGreatDoor
open Go Go.RowKit
attribute [local go_sem] Oper.semAt_some
end Go.Proofs.YtcojnigkgbmbmaaGreatDoor
namespace Go.Proofs.YtcojnigkgbmbmaaGreatDoor
open Go Go.RowKit
attribute [local go_sem] Oper.semAt_some
theorem ref12_first (intra : Bool) (w : World) : Calls Tryz.prog 84 #[.bool intra] w fun e w' => e = .returned (.int .i64 (frstP intra)) ∧ w = w' := by
  cases intra
  all_goals
    go_enter Tryz.func84, Tryz.ntmps84
    go_wp2_with fail
    go_ret
    exact ⟨rfl, rfl⟩
def codB (n : Int) : Bool := decide (1 ≤ n) && decide (n ≤ 255) && n != 128
theorem ref12_code (n : Int) (w : World) : Calls Tryz.prog 85 #[.int .i64 n] w fun e w' => e = .returned (.bool (codB n)) ∧ w = w' := by
  unfold codB
  cases a : decide (1 ≤ n) with
  | false =>
    go_enter Tryz.func85, Tryz.ntmps85
    go_wp2_with fail
    go_ret
    exact ⟨rfl, rfl⟩
  | true =>
    cases b : decide (n ≤ 255) with
    | false =>
      go_enter Tryz.func85, Tryz.ntmps85
      go_wp2_with fail
      go_ret
      exact ⟨rfl, rfl⟩
    | true =>
      cases c : (n != 128) with
      | false =>
        go_enter Tryz.func85, Tryz.ntmps85
        go_wp2_with fail
        go_ret
        exact ⟨rfl, rfl⟩
      | true =>
        go_enter Tryz.func85, Tryz.ntmps85
        go_wp2_with fail
        go_ret
        exact ⟨rfl, rfl⟩
end Go.Proofs.YtcojnigkgbmbmaaGreatDoor
namespace Go.Proofs.YtcojnigkgbmbmaaGreatDoor
open Go Go.RowKit
attribute [local go_sem] Oper.semAt_some
end Go.Proofs.YtcojnigkgbmbmaaGreatDoor
namespace Go.Proofs.YtcojnigkgbmbmaaGreatDoor
open Go Go.RowKit
attribute [local go_sem] Oper.semAt_some
theorem get8_end {l : List UInt8} {i : Int} {first : Bool} (h : (get8 l i first).2.2.2 ≠ 0) : (get8 l i first).2.1 = false := by
  unfold get8 at h ⊢
  dsimp only at h ⊢
  split
  · rfl
  split
  · rename_i h1 h2
    rw [if_neg h1, if_pos h2] at h
    exact absurd rfl h
  split
  · split
    · rfl
    · split <;> rfl
  · split <;> rfl
/-- the state of the loop: the pairs so far, the place in the bits, the place in the block. -/
structure InvR (l : List UInt8) (i : Int) (f0 : Bool) (left0 : Int) (L : List (Int × Int)) (p a : Int) : Prop where
  p0 : 0 ≤ p
  p1 : p ≤ 9223372036854775807
  p8 : p ≤ 8 * (l.length : Int) ∨ p = i
  a0 : (L.length : Int) ≤ a
  a1 : a ≤ 64
  eq : bpairs l 66 i f0 left0 = (L ++ (bpairs l (66 - L.length) p (f0 && L.length == 0) (64 - a)).1, (bpairs l (66 - L.length) p (f0 && L.length == 0) (64 - a)).2)
theorem bpairs_succR (l : List UInt8) (f : Nat) (i : Int) (first : Bool) (left : Int) : bpairs l (f + 1) i first left =
    (let r := cgetP l i first
    if r.2.1 then ([], i + r.2.2.1, 0) else if r.2.2.2 != 0 then ([], 0, r.2.2.2) else
    if left - (r.1.1 + 1) < 0 then ([], 0, 11) else
    let q := bpairs l f (i + r.2.2.1) false (left - (r.1.1 + 1))
    (r.1 :: q.1, q.2.1, q.2.2)) := rfl
theorem InvR.open {l : List UInt8} {i : Int} {f0 : Bool} {left0 : Int} {L : List (Int × Int)} {p a : Int} (h : InvR l i f0 left0 L p a) : ∃ g, 66 - L.length = g + 1 ∧ 65 - L.length = g := ⟨65 - L.length, by have := h.a0; have := h.a1; omega, rfl⟩
theorem InvR.err {l : List UInt8} {i : Int} {f0 : Bool} {left0 : Int} {L : List (Int × Int)} {p a r1 r2 bt er : Int} {en : Bool} (h : InvR l i f0 left0 L p a) (hc : cgetP l p (f0 && L.length == 0) = ((r1, r2), en, bt, er)) (he : er ≠ 0) : bpairs l 66 i f0 left0 = (L, 0, er) := by
  obtain ⟨g, hg, _⟩ := h.open
  have h1 := h.eq
  have h2 : en = false := by
    have := @get8_end l p (f0 && L.length == 0)
    rw [get8_eq, hc] at this
    exact this he
  rw [hg, bpairs_succR l g p, hc] at h1
  dsimp only at h1
  rw [h2, if_neg Bool.false_ne_true, if_pos (by simpa using he)] at h1
  simpa using h1
theorem InvR.stop {l : List UInt8} {i : Int} {f0 : Bool} {left0 : Int} {L : List (Int × Int)} {p a r1 r2 bt : Int} (h : InvR l i f0 left0 L p a) (hc : cgetP l p (f0 && L.length == 0) = ((r1, r2), true, bt, 0)) : bpairs l 66 i f0 left0 = (L, p + bt, 0) := by
  obtain ⟨g, hg, _⟩ := h.open
  have h1 := h.eq
  rw [hg, bpairs_succR l g p, hc] at h1
  dsimp only at h1
  rw [if_pos rfl] at h1
  simpa using h1
theorem InvR.over {l : List UInt8} {i : Int} {f0 : Bool} {left0 : Int} {L : List (Int × Int)} {p a r1 r2 bt : Int} (h : InvR l i f0 left0 L p a) (hc : cgetP l p (f0 && L.length == 0) = ((r1, r2), false, bt, 0)) (ho : 63 < a + r1) : bpairs l 66 i f0 left0 = (L, 0, 11) := by
  obtain ⟨g, hg, _⟩ := h.open
  have h1 := h.eq
  rw [hg, bpairs_succR l g p, hc] at h1
  dsimp only at h1
  rw [if_neg Bool.false_ne_true, if_neg (by decide), if_pos (by omega)] at h1
  simpa using h1
theorem InvR.ok {l : List UInt8} {i : Int} {f0 : Bool} {left0 : Int} {L : List (Int × Int)} {p a r1 r2 bt : Int} {en : Bool} (h : InvR l i f0 left0 L p a) (hi8 : 8 * (l.length : Int) ≤ 9223372036854775807) (hc : cgetP l p (f0 && L.length == 0) = ((r1, r2), en, bt, 0)) :
    1 ≤ bt ∧ p + bt ≤ 8 * (l.length : Int) ∧ (en = false → 0 ≤ r1 ∧ r1 ≤ 63) := by
  have h8 : p ≤ 8 * (l.length : Int) := by
    rcases Int.lt_or_le (8 * (l.length : Int)) p with h1 | h1
    · exfalso
      have h0 := h.p0
      unfold cgetP at hc
      rw [if_neg (by omega), if_pos h1] at hc
      injection hc with _ hc
      injection hc with _ hc
      injection hc with _ hc
      cases hc
    · exact h1
  have := cget_ok l p (f0 && L.length == 0) h.p0 h8
  rw [hc] at this
  obtain ⟨q0, q1, q2, q3, _⟩ := this
  dsimp only at q0 q1 q2 q3
  have h0 := h.p0
  exact ⟨q2 rfl, by omega, fun he => ⟨(q3 rfl he).1, (q3 rfl he).2.1⟩⟩
theorem InvR.next {l : List UInt8} {i : Int} {f0 : Bool} {left0 : Int} {L : List (Int × Int)} {p a r1 r2 bt : Int} (h : InvR l i f0 left0 L p a) (hi8 : 8 * (l.length : Int) ≤ 9223372036854775807) (hc : cgetP l p (f0 && L.length == 0) = ((r1, r2), false, bt, 0)) (ho : ¬ 63 < a + r1) : InvR l i f0 left0 (L ++ [(r1, r2)]) (p + bt) (a + r1 + 1) := by
  obtain ⟨b1, b2, b3⟩ := h.ok hi8 hc
  have b4 := b3 rfl
  obtain ⟨g, hg, hg2⟩ := h.open
  have h1 := h.eq
  rw [hg, bpairs_succR l g p, hc] at h1
  dsimp only at h1
  rw [if_neg Bool.false_ne_true, if_neg (by decide), if_neg (by omega)] at h1
  have hll : (L ++ [(r1, r2)]).length = L.length + 1 := by simp
  have h0 := h.p0
  have ha0 := h.a0
  refine ⟨by omega, by omega, .inl b2, by rw [hll]; omega, by omega, ?_⟩
  have e1 : 66 - (L.length + 1) = g := by omega
  have e2 : (f0 && L.length + 1 == 0) = false := by simp
  have e3 : 64 - (a + r1 + 1) = 64 - a - (r1 + 1) := by omega
  rw [hll, e1, e2, e3, h1]
  simp
theorem invR_start {l : List UInt8} {i p : Int} {f0 : Bool} {a : Int} (h0 : 0 ≤ p) (h1 : p ≤ 9223372036854775807) (ha : a = 0 ∨ a = 1) (hi : p ≤ 8 * (l.length : Int) ∨ p = i) : InvR l p f0 (64 - a) [] p a := by
  refine ⟨h0, h1, .inr rfl, by rcases ha with rfl | rfl <;> simp, by rcases ha with rfl | rfl <;> decide, ?_⟩
  simp
theorem bget_no {l : List UInt8} {i : Int} (h : i < 0) (intra : Bool) : bgetP l i intra = (⟨0, []⟩, 0, 3) := by unfold bgetP; rw [if_pos h]
theorem bget_intra {l : List UInt8} {i : Int} (h : ¬ i < 0) : bgetP l i true = if 8 * (l.length : Int) < i + 8 then (⟨0, []⟩, 0, 5) else if !codB (numN l i.toNat 8 : Nat) then (⟨0, []⟩, 0, 10) else
    if (bpairs l 66 (i + 8) false 63).2.2 != 0 then (⟨0, []⟩, 0, (bpairs l 66 (i + 8) false 63).2.2) else (⟨(numN l i.toNat 8 : Nat), (bpairs l 66 (i + 8) false 63).1⟩, (bpairs l 66 (i + 8) false 63).2.1 - i, 0) := by
  unfold bgetP
  rw [if_neg h]
  dsimp only
  have hx := numN_lt l i.toNat 8
  have hc : (!codB (numN l i.toNat 8 : Nat)) = (numN l i.toNat 8 == 0 || numN l i.toNat 8 == 128) := by
    generalize numN l i.toNat 8 = x at *
    have hx : x < 256 := hx
    unfold codB
    rw [Bool.eq_iff_iff]
    simp
    omega
  rw [hc]
  by_cases h1 : 8 * (l.length : Int) < i
  · rw [if_pos h1, if_pos (by omega)]
  · rw [if_neg h1]
    by_cases h2 : 8 * (l.length : Int) < i + 8
    · simp only [h2, if_true]
    · simp only [h2, if_false]; rfl
theorem bget_inter {l : List UInt8} {i : Int} (h : ¬ i < 0) : bgetP l i false = 
    if (bpairs l 66 i true 64).2.2 != 0 then (⟨0, []⟩, 0, (bpairs l 66 i true 64).2.2) else (⟨0, (bpairs l 66 i true 64).1⟩, (bpairs l 66 i true 64).2.1 - i, 0) := by
  unfold bgetP
  rw [if_neg h]
  by_cases h1 : 8 * (l.length : Int) < i
  · have e : bpairs l 66 i true 64 = ([], 0, 5) := by
      rw [bpairs_succR l 65 i]
      unfold cgetP
      rw [if_neg h, if_pos h1]
      rfl
    rw [if_pos h1, e]
    rfl
  · rw [if_neg h1, if_neg Bool.false_ne_true]
set_option maxRecDepth 100000 in
set_option maxHeartbeats 16000000 in
theorem ref12_Get (A : Option Addr) (n c : Nat) (l : List UInt8) (i : Int) (intra : Bool) (w : World) (hA : Sl w A (l.map byteV)) (hn : l.length = n) (hsz : n ≤ 2 ^ 47) (hi : -9223372036854775808 ≤ i ∧ i ≤ 9223372036854775807) :
    Calls Tryz.prog 44 #[.slice A n c, .int .i64 i, .bool intra] w (BGPost (bgetP l i intra) w) := by
  by_cases h0 : i < 0
  · have d0 : decide (i < 0) = true := decide_eq_true h0
    rw [bget_no h0]
    clear hi h0
    go_enter Tryz.func44, Tryz.ntmps44
    go_wp2_with fail
    refine bodyPost_ret (by simp [results, Tryz.results44, go_sem]; try rfl) rfl ?_
    exact ⟨_, rfl, (Below.refl _ _).alloc (Nat.le_refl _) _, World.ownsRow_nil _ _ _ _⟩
  have d0 : decide (i < 0) = false := decide_eq_false h0
  have HA := Lib.hid hA; have HN := Lib.hid hn; have HSZ := Lib.hid hsz; have HI := Lib.hid hi; have H0 := Lib.hid h0
  have C1 := Lib.hid (fun W => ref12_first intra W)
  have hb1 := ((Below.refl _ w).alloc (Nat.le_refl _) (.cells #[.int .i64 0, .slice none 0 0] 81)).alloc (by simp) (.cells #[.int .i64 0, .slice none 0 0] 81)
  have hc1 : CellsAt [(w.heap.size, 81, #[.int .i64 0, .slice none 0 0]), (w.heap.size + 1, 81, #[.int .i64 0, .slice none 0 0])] ((w.alloc (.cells #[.int .i64 0, .slice none 0 0] 81)).alloc (.cells #[.int .i64 0, .slice none 0 0] 81)) :=
    CellsAt.cons ((Blk.new w _ _).alloc _) (CellsAt.cons (blkAt (Blk.new _ _ _) (by simp)) (cellsAt_nil _))
  have HB1 := Lib.hid hb1; have HC1 := Lib.hid hc1
  clear hA hn hsz hi h0 hb1 hc1
  have HCS : Hid (∀ dc : Int, Cons w [(w.heap.size, 81, #[.int .i64 0, .slice none 0 0]), (w.heap.size + 1, 81, #[.int .i64 dc, .slice none 0 0])] [⟨w.heap.size, 109, 2, .slice none 0 0, 0, []⟩] ((w.alloc (.cells #[.int .i64 0, .slice none 0 0] 81)).alloc (.cells #[.int .i64 dc, .slice none 0 0] 81))) := Lib.hid (fun dc =>
    ⟨((Below.refl _ w).alloc (Nat.le_refl _) _).alloc (by simp) _, CellsAt.cons ((Blk.new w _ _).alloc _) (CellsAt.cons (blkAt (Blk.new _ _ _) (by simp)) (cellsAt_nil _)), RowsAt.cons (World.ownsRow_nil _ _ _ _) (rowsAt_nil _)⟩)
  obtain ⟨R, hR⟩ : ∃ R, bgetP l i intra = R := ⟨_, rfl⟩
  rw [hR]
  cases intra with
  | true =>
    rw [bget_intra H0.out] at hR
    by_cases h8 : 8 * (l.length : Int) < i + 8
    · rw [if_pos h8] at hR
      subst hR
      have CR := Lib.hid (fun W => ref01_Read_more A n c i 8 W (by have := H0.out; omega) (by decide) (by decide) (by have := HN.out; omega) HI.out.2 HSZ.out)
      clear h8
      go_enter Tryz.func44, Tryz.ntmps44
      go_wp2_with (first | (go_at_call 84; refine (C1.out _).mono ?_; rintro e w' ⟨rfl, rfl⟩) | (go_at_call 39; refine (CR.out _).mono ?_; rintro e w' ⟨rfl, rfl⟩))
      refine bodyPost_ret (by simp [results, Tryz.results44, go_sem]; try rfl) rfl ?_
      exact ⟨_, rfl, HB1.out, World.ownsRow_nil _ _ _ _⟩
    · rw [if_neg h8] at hR
      have CR := Lib.hid (fun W hW => ref01_Read A n c l i 8 W hW HN.out (by have := H0.out; omega) (by decide) (by decide) (by have := HN.out; omega) HSZ.out)
      rw [show (8 : Int).toNat = 8 from rfl] at CR
      have hx := numN_lt l i.toNat 8
      have CX := Lib.hid (fun (x : Int) W => ref12_code x W)
      generalize numN l i.toNat 8 = x at hR hx CR
      have H8 := Lib.hid h8
      clear h8
      cases hc : codB (x : Int) with
      | false =>
        rw [hc, if_pos (by rfl)] at hR
        subst hR
        have CY := Lib.hid (fun W => CX.out (x : Int) W)
        rw [hc] at CY
        clear CX hc
        go_enter Tryz.func44, Tryz.ntmps44
        go_wp2_with (first | (go_at_call 84; refine (C1.out _).mono ?_; rintro e w' ⟨rfl, rfl⟩) | (go_at_call 39; refine (CR.out _ (HA.out.below HB1.out)).mono ?_; rintro e w' ⟨rfl, rfl⟩) | (go_at_call 85; refine (CY.out _).mono ?_; rintro e w' ⟨rfl, rfl⟩))
        refine bodyPost_ret (by simp [results, Tryz.results44, go_sem]; try rfl) rfl ?_
        exact ⟨_, rfl, HB1.out, World.ownsRow_nil _ _ _ _⟩
      | true =>
        rw [hc, if_neg (by decide)] at hR
        have HR := Lib.hid hR
        have CY := Lib.hid (fun W => CX.out (x : Int) W)
        rw [hc] at CY
        clear CX hc hR
        go_enter Tryz.func44, Tryz.ntmps44
        go_wp2_with (first | (go_at_call 84; refine (C1.out _).mono ?_; rintro e w' ⟨rfl, rfl⟩) | (go_at_call 39; refine (CR.out _ (HA.out.below HB1.out)).mono ?_; rintro e w' ⟨rfl, rfl⟩) | (go_at_call 85; refine (CY.out _).mono ?_; rintro e w' ⟨rfl, rfl⟩))
        have HIN := Lib.hid (by have := invR_start (l := l) (i := i + 8) (p := i + 8) (f0 := false) (a := 1) (by have := H0.out; omega) (by have := HI.out; have := HSZ.out; have := H8.out; have := HN.out; omega) (by decide) (.inl (by have := H8.out; omega)); simpa using this)
        go_wp2_with fail
        go_loopg [10, 11] 66 (fun g tb tp => fun wr => ∃ (L : List (Int × Int)) (v : Value) (p a : Int), L.length + g = 66 ∧ tb = .int .i64 (p - i) ∧ tp = .int .i64 a ∧ Hid (InvR l (i + 8) false 63 L p a) ∧ Hid (Cons w [(w.heap.size, 81, #[.int .i64 0, .slice none 0 0]), (w.heap.size + 1, 81, #[.int .i64 (x : Int), v])] [⟨w.heap.size, 109, 2, v, L.length, rowC pairC L⟩] wr))
        case atStart => exact ⟨[], _, i + 8, 1, rfl, by rw [show i + 8 - i = 8 by omega], rfl, HIN, Lib.hid (HCS.out (x : Int))⟩
        case round =>
          obtain ⟨L, v, p, a, hL, rfl, rfl, HIV, HC⟩ := hrel
          cases gk with
          | zero => have h1 := HIV.out.a0; have h2 := HIV.out.a1; omega
          | succ g =>
            obtain ⟨A1, c1, hv⟩ := own_slN HC.out.2.2.head
            dsimp only at hv
            subst hv
            have hp0 := HIV.out.p0; have hp1 := HIV.out.p1; have hp8 := HIV.out.p8; have ha0 := HIV.out.a0; have ha1 := HIV.out.a1
            have hn := HN.out; have hsz := HSZ.out; have hi0 := H0.out; have hi2 := HI.out
            have hwp : IntKind.i64.wrap (i + (p - i)) = p := by rw [show i + (p - i) = p by omega, IntKind.wrap_i64]; omega
            obtain ⟨⟨⟨r1, r2⟩, en, bt, er⟩, hr⟩ : ∃ r, cgetP l p (false && L.length == 0) = r := ⟨_, rfl⟩
            have HRR := Lib.hid hr
            have cg := fun W hW => ref08_Get A n c l p (false && L.length == 0) W hW HN.out HSZ.out ⟨by omega, hp1⟩
            rw [get8_eq, hr] at cg
            unfold G8Post at cg
            dsimp only at cg
            simp only [Bool.false_and] at cg
            have CG := Lib.hid cg
            have x9 := HC.out.2.1.tail.head
            have y0 := x9.cell 0; have y1 := x9.cell 1
            (try dsimp only at y0 y1)
            have HLL := Lib.hid hL
            clear cg hr x9 hL hp8 hn hi0 hi2
            go_wp2_with fail
            refine (CG.out _ (HA.out.below HC.out.1)).mono ?_
            rintro e w3 ⟨rfl, hb3⟩
            have hc4 := cons_alloc (cons_below HC.out hb3) (.cells #[.int .i64 r1, .int .i64 r2] 109)
            have x6 := hc4.2.1.head; have x9 := hc4.2.1.tail.head
            have u0 := x6.cell 0; have u1 := x6.cell 1; have f0 := x6.frozen 0; have f1 := x6.frozen 1
            have v0 := x9.cell 0; have v1 := x9.cell 1
            (try dsimp only at u0 u1 v0 v1 f0 f1)
            have HC4 := Lib.hid hc4
            clear hb3 hc4 x6 x9 y0 y1 CG
            cases he : (er != 0) with
            | true =>
              have hbp := HIV.out.err HRR.out (by simpa using he)
              have hR := HR.out
              rw [hbp] at hR
              dsimp only at hR
              rw [if_pos he] at hR
              subst hR
              clear hbp
              go_wp2_with fail
              have h5 := cons_set HC4.out (Nat.le_refl _) 0 (.int .i64 0) (by simp) (by simp)
              have h6 := cons_set h5 (Nat.le_refl _) 1 (.slice none 0 0) (by simp) (by simp)
              have s0 := h6.2.1.head.cell 0; have s1 := h6.2.1.head.cell 1
              simp at s0 s1
              refine bodyPost_ret (by simp [results, Tryz.results44, go_sem, s0, s1]; try rfl) rfl ?_
              exact ⟨_, rfl, h6.1, World.ownsRow_nil _ _ _ _⟩
            | false =>
              have he0 : er = 0 := by simpa using he
              subst he0
              obtain ⟨hb1, hb2, hb3⟩ := HIV.out.ok (by have := HN.out; have := HSZ.out; omega) HRR.out
              have hwb : IntKind.i64.wrap (p - i + bt) = p - i + bt := by have := H0.out; have := HI.out; have := HN.out; rw [IntKind.wrap_i64]; omega
              cases en with
              | true =>
                have hbp := HIV.out.stop HRR.out
                have hR := HR.out
                rw [hbp] at hR
                dsimp only at hR
                rw [if_neg (by decide), show p + bt - i = p - i + bt by omega] at hR
                subst hR
                clear hbp hb1 hb2 hb3 he
                go_wp2_with fail
                have h5 := cons_set HC4.out (Nat.le_refl _) 0 (.int .i64 (x : Int)) (by simp) (by simp)
                have h6 := cons_set h5 (Nat.le_refl _) 1 (.slice A1 L.length c1) (by simp) (by simp)
                have s0 := h6.2.1.head.cell 0; have s1 := h6.2.1.head.cell 1
                simp at s0 s1
                refine bodyPost_ret (by simp [results, Tryz.results44, go_sem, s0, s1]; try rfl) rfl ?_
                exact ⟨_, rfl, h6.1, h6.2.2.head⟩
              | false =>
                obtain ⟨hb4, hb5⟩ := hb3 rfl
                by_cases ho : 63 < a + r1
                · have hbp := HIV.out.over HRR.out ho
                  have hR := HR.out
                  rw [hbp] at hR
                  dsimp only at hR
                  rw [if_pos (by decide)] at hR
                  subst hR
                  have hd : decide (63 < a + r1) = true := decide_eq_true ho
                  have hwa : IntKind.i64.wrap (a + r1) = a + r1 := by rw [IntKind.wrap_i64]; omega
                  clear hbp ho hb1 hb2 hb4 hb5 hb3 he
                  go_wp2_with fail
                  have h5 := cons_set HC4.out (Nat.le_refl _) 0 (.int .i64 0) (by simp) (by simp)
                  have h6 := cons_set h5 (Nat.le_refl _) 1 (.slice none 0 0) (by simp) (by simp)
                  have s0 := h6.2.1.head.cell 0; have s1 := h6.2.1.head.cell 1
                  simp at s0 s1
                  refine bodyPost_ret (by simp [results, Tryz.results44, go_sem, s0, s1]; try rfl) rfl ?_
                  exact ⟨_, rfl, h6.1, World.ownsRow_nil _ _ _ _⟩
                · have hnx := HIV.out.next (by have := HN.out; have := HSZ.out; omega) HRR.out ho
                  have HNX := Lib.hid hnx
                  have hd : decide (63 < a + r1) = false := decide_eq_false ho
                  have hwa : IntKind.i64.wrap (a + r1) = a + r1 := by rw [IntKind.wrap_i64]; omega
                  have hwa2 : IntKind.i64.wrap (a + r1 + 1) = a + r1 + 1 := by rw [IntKind.wrap_i64]; omega
                  have hk64 : L.length ≤ 64 := by omega
                  clear hnx ho hb1 hb2 hb4 hb5 hb3 he ha0 ha1
                  go_wp2_with (at_builtin; refine wpList_appC etPair rfl rfl 1 [.int .i64 r1, .int .i64 r2] rfl HC4.out (by rw [World.size_alloc]; rfl) rfl (by intro u hu; simp at hu; rcases hu with rfl | rfl <;> rfl) (by omega) ⟨Nat.le_refl _, HC4.out.1.size⟩ (by simp) (by simp) ?_; intro v' W5 hc5; obtain ⟨A2, c2, hv2⟩ := own_slN hc5.2.2.head; dsimp only at hv2; subst hv2; have q9 := hc5.2.1.tail.head; have j1 := q9.cell 1; have j2 := q9.frozen 1; (try dsimp only at j1 j2); have HC5 := Lib.hid hc5; clear hc5 q9)
                  go_roundg g
                  case measure => omega
                  case rel =>
                    refine ⟨L ++ [(r1, r2)], .slice A2 (L.length + 1) c2, p + bt, a + r1 + 1, by rw [List.length_append]; have := HLL.out; simp; omega, by rw [show p + bt - i = p - i + bt by omega], rfl, HNX, Lib.hid ?_⟩
                    have h6 := cons_cswap (cons_set (cons_cswap HC5.out) (Nat.le_succ _) 1 (.slice A2 (L.length + 1) c2) (by simp) (by simp))
                    rw [pairC_app, List.length_append]
                    exact h6
  | false =>
    rw [bget_inter H0.out] at hR
    have HR := Lib.hid hR
    clear hR
    go_enter Tryz.func44, Tryz.ntmps44
    go_wp2_with (go_at_call 84; refine (C1.out _).mono ?_; rintro e w' ⟨rfl, rfl⟩)
    have HIN := Lib.hid (by have := invR_start (l := l) (i := i) (p := i) (f0 := true) (a := 0) (by have := H0.out; omega) (by have := HI.out; have := HSZ.out; omega) (by decide) (.inr rfl); simpa using this)
    go_wp2_with fail
    go_loopg [10, 11] 66 (fun g tb tp => fun wr => ∃ (L : List (Int × Int)) (v : Value) (p a : Int), L.length + g = 66 ∧ tb = .int .i64 (p - i) ∧ tp = .int .i64 a ∧ Hid (InvR l (i) true 64 L p a) ∧ Hid (Cons w [(w.heap.size, 81, #[.int .i64 0, .slice none 0 0]), (w.heap.size + 1, 81, #[.int .i64 0, v])] [⟨w.heap.size, 109, 2, v, L.length, rowC pairC L⟩] wr))
    case atStart => exact ⟨[], _, i, 0, rfl, by rw [show i - i = 0 by omega], rfl, HIN, Lib.hid (HCS.out 0)⟩
    case round =>
      obtain ⟨L, v, p, a, hL, rfl, rfl, HIV, HC⟩ := hrel
      cases gk with
      | zero => have h1 := HIV.out.a0; have h2 := HIV.out.a1; omega
      | succ g =>
        obtain ⟨A1, c1, hv⟩ := own_slN HC.out.2.2.head
        dsimp only at hv
        subst hv
        have hp0 := HIV.out.p0; have hp1 := HIV.out.p1; have hp8 := HIV.out.p8; have ha0 := HIV.out.a0; have ha1 := HIV.out.a1
        have hn := HN.out; have hsz := HSZ.out; have hi0 := H0.out; have hi2 := HI.out
        have hwp : IntKind.i64.wrap (i + (p - i)) = p := by rw [show i + (p - i) = p by omega, IntKind.wrap_i64]; omega
        obtain ⟨⟨⟨r1, r2⟩, en, bt, er⟩, hr⟩ : ∃ r, cgetP l p (true && L.length == 0) = r := ⟨_, rfl⟩
        have HRR := Lib.hid hr
        have cg := fun W hW => ref08_Get A n c l p (true && L.length == 0) W hW HN.out HSZ.out ⟨by omega, hp1⟩
        rw [get8_eq, hr] at cg
        unfold G8Post at cg
        dsimp only at cg
        simp only [Bool.true_and] at cg
        have hkb : ((L.length : Int) == 0) = (L.length == 0) := by cases L <;> simp <;> omega
        obtain ⟨b, hb⟩ : ∃ b, (L.length == 0) = b := ⟨_, rfl⟩
        rw [hb] at hkb cg
        clear hb
        have CG := Lib.hid cg
        have x9 := HC.out.2.1.tail.head
        have y0 := x9.cell 0; have y1 := x9.cell 1
        (try dsimp only at y0 y1)
        have HLL := Lib.hid hL
        clear cg hr x9 hL hp8 hn hi0 hi2
        go_wp2_with fail
        refine (CG.out _ (HA.out.below HC.out.1)).mono ?_
        rintro e w3 ⟨rfl, hb3⟩
        have hc4 := cons_alloc (cons_below HC.out hb3) (.cells #[.int .i64 r1, .int .i64 r2] 109)
        have x6 := hc4.2.1.head; have x9 := hc4.2.1.tail.head
        have u0 := x6.cell 0; have u1 := x6.cell 1; have f0 := x6.frozen 0; have f1 := x6.frozen 1
        have v0 := x9.cell 0; have v1 := x9.cell 1
        (try dsimp only at u0 u1 v0 v1 f0 f1)
        have HC4 := Lib.hid hc4
        clear hb3 hc4 x6 x9 y0 y1 CG
        cases he : (er != 0) with
        | true =>
          have hbp := HIV.out.err HRR.out (by simpa using he)
          have hR := HR.out
          rw [hbp] at hR
          dsimp only at hR
          rw [if_pos he] at hR
          subst hR
          clear hbp
          go_wp2_with fail
          have h5 := cons_set HC4.out (Nat.le_refl _) 0 (.int .i64 0) (by simp) (by simp)
          have h6 := cons_set h5 (Nat.le_refl _) 1 (.slice none 0 0) (by simp) (by simp)
          have s0 := h6.2.1.head.cell 0; have s1 := h6.2.1.head.cell 1
          simp at s0 s1
          refine bodyPost_ret (by simp [results, Tryz.results44, go_sem, s0, s1]; try rfl) rfl ?_
          exact ⟨_, rfl, h6.1, World.ownsRow_nil _ _ _ _⟩
        | false =>
          have he0 : er = 0 := by simpa using he
          subst he0
          obtain ⟨hb1, hb2, hb3⟩ := HIV.out.ok (by have := HN.out; have := HSZ.out; omega) HRR.out
          have hwb : IntKind.i64.wrap (p - i + bt) = p - i + bt := by have := H0.out; have := HI.out; have := HN.out; rw [IntKind.wrap_i64]; omega
          cases en with
          | true =>
            have hbp := HIV.out.stop HRR.out
            have hR := HR.out
            rw [hbp] at hR
            dsimp only at hR
            rw [if_neg (by decide), show p + bt - i = p - i + bt by omega] at hR
            subst hR
            clear hbp hb1 hb2 hb3 he
            go_wp2_with fail
            have h5 := cons_set HC4.out (Nat.le_refl _) 0 (.int .i64 0) (by simp) (by simp)
            have h6 := cons_set h5 (Nat.le_refl _) 1 (.slice A1 L.length c1) (by simp) (by simp)
            have s0 := h6.2.1.head.cell 0; have s1 := h6.2.1.head.cell 1
            simp at s0 s1
            refine bodyPost_ret (by simp [results, Tryz.results44, go_sem, s0, s1]; try rfl) rfl ?_
            exact ⟨_, rfl, h6.1, h6.2.2.head⟩
          | false =>
            obtain ⟨hb4, hb5⟩ := hb3 rfl
            by_cases ho : 63 < a + r1
            · have hbp := HIV.out.over HRR.out ho
              have hR := HR.out
              rw [hbp] at hR
              dsimp only at hR
              rw [if_pos (by decide)] at hR
              subst hR
              have hd : decide (63 < a + r1) = true := decide_eq_true ho
              have hwa : IntKind.i64.wrap (a + r1) = a + r1 := by rw [IntKind.wrap_i64]; omega
              clear hbp ho hb1 hb2 hb4 hb5 hb3 he
              go_wp2_with fail
              have h5 := cons_set HC4.out (Nat.le_refl _) 0 (.int .i64 0) (by simp) (by simp)
              have h6 := cons_set h5 (Nat.le_refl _) 1 (.slice none 0 0) (by simp) (by simp)
              have s0 := h6.2.1.head.cell 0; have s1 := h6.2.1.head.cell 1
              simp at s0 s1
              refine bodyPost_ret (by simp [results, Tryz.results44, go_sem, s0, s1]; try rfl) rfl ?_
              exact ⟨_, rfl, h6.1, World.ownsRow_nil _ _ _ _⟩
            · have hnx := HIV.out.next (by have := HN.out; have := HSZ.out; omega) HRR.out ho
              have HNX := Lib.hid hnx
              have hd : decide (63 < a + r1) = false := decide_eq_false ho
              have hwa : IntKind.i64.wrap (a + r1) = a + r1 := by rw [IntKind.wrap_i64]; omega
              have hwa2 : IntKind.i64.wrap (a + r1 + 1) = a + r1 + 1 := by rw [IntKind.wrap_i64]; omega
              have hk64 : L.length ≤ 64 := by omega
              clear hnx ho hb1 hb2 hb4 hb5 hb3 he ha0 ha1
              go_wp2_with (at_builtin; refine wpList_appC etPair rfl rfl 1 [.int .i64 r1, .int .i64 r2] rfl HC4.out (by rw [World.size_alloc]; rfl) rfl (by intro u hu; simp at hu; rcases hu with rfl | rfl <;> rfl) (by omega) ⟨Nat.le_refl _, HC4.out.1.size⟩ (by simp) (by simp) ?_; intro v' W5 hc5; obtain ⟨A2, c2, hv2⟩ := own_slN hc5.2.2.head; dsimp only at hv2; subst hv2; have q9 := hc5.2.1.tail.head; have j1 := q9.cell 1; have j2 := q9.frozen 1; (try dsimp only at j1 j2); have HC5 := Lib.hid hc5; clear hc5 q9)
              go_roundg g
              case measure => omega
              case rel =>
                refine ⟨L ++ [(r1, r2)], .slice A2 (L.length + 1) c2, p + bt, a + r1 + 1, by rw [List.length_append]; have := HLL.out; simp; omega, by rw [show p + bt - i = p - i + bt by omega], rfl, HNX, Lib.hid ?_⟩
                have h6 := cons_cswap (cons_set (cons_cswap HC5.out) (Nat.le_succ _) 1 (.slice A2 (L.length + 1) c2) (by simp) (by simp))
                rw [pairC_app, List.length_append]
                exact h6
end Go.Proofs.YtcojnigkgbmbmaaGreatDoor
namespace Go.Proofs.YtcojnigkgbmbmaaGreatDoor
open Go Go.RowKit
attribute [local go_sem] Oper.semAt_some
set_option maxHeartbeats 4000000 in
theorem ref19_Ahead (x : LastM) (ad : Int) (w : World) : Calls Tryz.prog 35 #[.agg #[.int .i64 x.ad, .bool x.had, .int .i64 x.x, .int .i64 x.y], .int .i64 ad] w fun e w' => e = .returned (.bool (aheadB x ad)) ∧ Below w.heap.size w w' := by
  obtain ⟨la, lh, lx, ly⟩ := x
  unfold aheadB partB
  dsimp only
  have HB := Lib.hid ((Below.refl _ w).alloc (Nat.le_refl _) (.cells #[.int .i64 la, .bool lh, .int .i64 lx, .int .i64 ly] 24))
  by_cases a1 : la < 0
  · have e1 : decide (la < 0) = true := decide_eq_true a1
    have f1 : decide (0 ≤ la) = false := by simp; omega
    rw [f1]; simp only [Bool.false_and]
    clear a1 f1
    go_enter Tryz.func35, Tryz.ntmps35
    go_wp2_with fail
    go_ret
    exact ⟨rfl, HB.out⟩
  have e1 : decide (la < 0) = false := decide_eq_false a1
  have f1 : decide (0 ≤ la) = true := by simp; omega
  rw [f1]
  clear a1 f1
  by_cases a2 : la < ad
  · have e2 : decide (ad ≤ la) = false := by simp; omega
    have f2 : decide (la < ad) = true := decide_eq_true a2
    rw [f2]
    clear a2 f2
    by_cases a3 : lx < -15
    · have e3 : decide (lx < -15) = true := decide_eq_true a3
      have f3 : decide (-15 ≤ lx) = false := by simp; omega
      rw [f3]; simp only [Bool.false_and, Bool.and_false, Bool.true_and]
      clear a3 f3
      go_enter Tryz.func35, Tryz.ntmps35
      go_wp2_with fail
      go_ret
      exact ⟨rfl, HB.out⟩
    have e3 : decide (lx < -15) = false := decide_eq_false a3
    have f3 : decide (-15 ≤ lx) = true := by simp; omega
    rw [f3]
    clear a3 f3
    by_cases a4 : 15 < lx
    · have e4 : decide (15 < lx) = true := decide_eq_true a4
      have f4 : decide (lx ≤ 15) = false := by simp; omega
      rw [f4]; simp only [Bool.false_and, Bool.and_false, Bool.true_and]
      clear a4 f4
      go_enter Tryz.func35, Tryz.ntmps35
      go_wp2_with fail
      go_ret
      exact ⟨rfl, HB.out⟩
    have e4 : decide (15 < lx) = false := decide_eq_false a4
    have f4 : decide (lx ≤ 15) = true := by simp; omega
    rw [f4]
    clear a4 f4
    by_cases a5 : ly < -15
    · have e5 : decide (ly < -15) = true := decide_eq_true a5
      have f5 : decide (-15 ≤ ly) = false := by simp; omega
      rw [f5]; simp only [Bool.false_and, Bool.and_false, Bool.true_and]
      clear a5 f5
      go_enter Tryz.func35, Tryz.ntmps35
      go_wp2_with fail
      go_ret
      exact ⟨rfl, HB.out⟩
    have e5 : decide (ly < -15) = false := decide_eq_false a5
    have f5 : decide (-15 ≤ ly) = true := by simp; omega
    rw [f5]
    clear a5 f5
    by_cases a6 : 15 < ly
    · have e6 : decide (15 < ly) = true := decide_eq_true a6
      have f6 : decide (ly ≤ 15) = false := by simp; omega
      rw [f6]; simp only [Bool.false_and, Bool.and_false, Bool.true_and]
      clear a6 f6
      go_enter Tryz.func35, Tryz.ntmps35
      go_wp2_with fail
      go_ret
      exact ⟨rfl, HB.out⟩
    have e6 : decide (15 < ly) = false := decide_eq_false a6
    have f6 : decide (ly ≤ 15) = true := by simp; omega
    rw [f6]
    clear a6 f6
    cases lh with
    | true =>
      go_enter Tryz.func35, Tryz.ntmps35
      go_wp2_with fail
      go_ret
      exact ⟨rfl, HB.out⟩
    | false =>
      cases a7 : (lx == 0) with
      | true =>
        go_enter Tryz.func35, Tryz.ntmps35
        go_wp2_with fail
        go_ret
        exact ⟨rfl, HB.out⟩
      | false =>
        go_enter Tryz.func35, Tryz.ntmps35
        go_wp2_with fail
        go_ret
        exact ⟨rfl, HB.out⟩
  · have e2 : decide (ad ≤ la) = true := by simp; omega
    have f2 : decide (la < ad) = false := decide_eq_false a2
    rw [f2]; simp only [Bool.false_and, Bool.and_false, Bool.true_and]
    clear a2 f2
    go_enter Tryz.func35, Tryz.ntmps35
    go_wp2_with fail
    go_ret
    exact ⟨rfl, HB.out⟩
end Go.Proofs.YtcojnigkgbmbmaaGreatDoor
namespace Go.Proofs.YtcojnigkgbmbmaaGreatDoor
open Go Go.RowKit
attribute [local go_sem] Oper.semAt_some
end Go.Proofs.YtcojnigkgbmbmaaGreatDoor
